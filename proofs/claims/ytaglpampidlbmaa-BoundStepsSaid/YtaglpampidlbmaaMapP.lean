/- Maps whose keys are structs of two ints; the length of a map. Over any program. Conditions: none. -/
import Derived.Test.YtaglpampidlbmaaList
import Derived.Test.YtaglpampidlbmaaMix
import Derived.WideKeyRuns
namespace Go.Eng
open Go Go.RowKit
def pk (k : Int × Int) : Value := .agg #[.int .i64 k.1, .int .i64 k.2]
theorem pk_inj {a b : Int × Int} (h : pk a = pk b) : a = b := by
  unfold pk at h
  simp only [Value.agg.injEq, Array.mk.injEq, List.cons.injEq, Value.int.injEq, true_and, and_true] at h
  exact Prod.ext h.1 h.2
/-- Two ints are a key type of the program. -/
structure PK (P : Program) (kt : TypeId) : Prop where
  wide : (match P.underlying kt with | some (.array _ _) | some (.struct _) => true | _ => false) = true
  eq : ∀ (a b c d : Int) (w : World), (Op.equalIn 10000 kt (.agg #[.int .i64 a, .int .i64 b]) (.agg #[.int .i64 c, .int .i64 d])).run P w = .ok ((a == c) && (b == d)) w
  chk : ∀ (em : Bool) (a b : Int) (w : World), (Instr.checkKey em 10000 kt (.agg #[.int .i64 a, .int .i64 b])).run P w = .ok () w
abbrev PM := List ((Int × Int) × Value)
def MpP (w : World) (g : Nat) (m : PM) : Prop := ∃ es clock, w.heap[g]? = some (.map es clock) ∧ es.toList.map (fun e => (e.key, e.val)) = m.map fun p => (pk p.1, p.2)
def pget : PM → Int × Int → Option Value
  | [], _ => none
  | (k, v) :: r, i => if i = k then some v else pget r i
def pset : PM → Int × Int → Value → PM
  | [], i, u => [(i, u)]
  | (k, v) :: r, i, u => if i = k then (k, u) :: r else (k, v) :: pset r i u
def pval (m : PM) (i : Int × Int) (z : Value) : Value := (pget m i).getD z
theorem pset_none : ∀ (m : PM) (i : Int × Int) (u : Value), pget m i = none → pset m i u = m ++ [(i, u)]
  | [], i, u, _ => rfl
  | (k, v) :: r, i, u, h => by
    simp only [pget] at h
    by_cases hi : i = k
    · simp [hi] at h
    · simp only [hi, if_false] at h
      simp [pset, hi, pset_none r i u h]
section
variable {P : Program} {w w' : World} {g : Nat} {m : PM}
theorem MpP.lt (h : MpP w g m) : g < w.heap.size := by
  obtain ⟨es, c, h1, _⟩ := h
  rcases Nat.lt_or_ge g w.heap.size with hlt | hge
  · exact hlt
  · rw [Array.getElem?_eq_none hge] at h1; cases h1
theorem MpP.of_block (h : MpP w g m) (hb : w'.heap[g]? = w.heap[g]?) : MpP w' g m := by
  obtain ⟨es, c, h1, h2⟩ := h; exact ⟨es, c, hb.trans h1, h2⟩
theorem MpP.ext (h : MpP w g m) (x : Ext w w') : MpP w' g m := h.of_block (x.block g h.lt)
theorem MpP.only {b : Nat} (h : MpP w g m) (hne : g ≠ b) (x : Only b w w') : MpP w' g m := h.of_block (x.block g hne)
theorem MpP.grown {row : Option Nat} (h : MpP w g m) (x : Gr w w' row) (hne : row ≠ some g) : MpP w' g m := h.of_block (x.block g h.lt (Ne.symm hne))
theorem MpP.keep {S : List Nat} (h : MpP w g m) (x : Keep S w w') (hS : g ∉ S) : MpP w' g m := h.of_block (x.block g h.lt hS)
theorem ne_newMP {b : Nat} (h : MpP w g m) (e : b = w.heap.size) : g ≠ b := by have := h.lt; omega
theorem ne_resMP {α : Type} {f : α → List Value} {sz e : Nat} {v : Value} {l : List α} (ow : OwnL w' w.heap.size e f sz v l) (h : MpP w g m) : v.ownBlock ≠ some g := fun h' => by have := (ow.lt h').1; have := h.lt; omega
theorem ne_appMP {v v' : Value} (h : v'.ownBlock = v.ownBlock ∨ v'.ownBlock = some w.heap.size) (hn : v.ownBlock ≠ some g) (m : MpP w g m) : v'.ownBlock ≠ some g := by
  rcases h with h | h
  · rw [h]; exact hn
  · rw [h]; intro e; injection e with e; have := m.lt; omega
theorem findAsking_m {kt : TypeId} (hk : PK P kt) (i : Int × Int) (w : World) : ∀ (l : List MapEntry) (m : PM) (k : Nat), l.map (fun e => (e.key, e.val)) = m.map (fun p => (pk p.1, p.2)) →
    ∃ r, (Instr.findAsking kt (pk i) l k).run P w = .ok r w ∧ (r.map (·.2)) = pget m i ∧ ∀ j u, r = some (j, u) → ∃ j', j = k + j' ∧ j' < l.length ∧ (l[j']?).map (·.key) = some (pk i) ∧ ∀ v, ((l.modify j' fun e => { e with key := pk i, val := v }).map fun e => (e.key, e.val)) = (pset m i v).map fun p => (pk p.1, p.2)
  | [], [], k, _ => ⟨none, by simp [Instr.findAsking], rfl, by simp⟩
  | [], _ :: _, _, h => by simp at h
  | _ :: _, [], _, h => by simp at h
  | e :: l, (a, u) :: m, k, h => by
    simp only [List.map_cons, List.cons.injEq, Prod.mk.injEq] at h
    obtain ⟨⟨h1, h2⟩, h3⟩ := h
    have hq : (Op.equal kt (pk i) e.key).run P w = .ok ((i.1 == a.1) && (i.2 == a.2)) w := by
      rw [h1]; exact hk.eq i.1 i.2 a.1 a.2 w
    by_cases hi : i = a
    · subst hi
      refine ⟨some (k, u), ?_, by simp [pget], ?_⟩
      · simp only [Instr.findAsking, Sem.run_bind, hq, Result.andThen_ok, beq_self_eq_true, Bool.and_self, if_true, Sem.run_pure, h2]
      · rintro j u' hju
        simp at hju
        refine ⟨0, by omega, by simp, by simp [h1], fun v => ?_⟩
        simp [pset, h3]
    · obtain ⟨r, hr, hm, hj⟩ := findAsking_m hk i w l m (k + 1) h3
      have hb : ((i.1 == a.1) && (i.2 == a.2)) = false := by
        rw [Bool.and_eq_false_iff]
        by_cases h0 : i.1 = a.1
        · refine .inr ?_
          have : i.2 ≠ a.2 := fun e => hi (Prod.ext h0 e)
          simpa using this
        · exact .inl (by simpa using h0)
      refine ⟨r, ?_, by simp [pget, hi, hm], ?_⟩
      · simp only [Instr.findAsking, Sem.run_bind, hq, Result.andThen_ok, hb, Bool.false_eq_true, if_false, hr]
      · rintro j u' hju
        obtain ⟨j', e1, e2, e3, e4⟩ := hj j u' hju
        refine ⟨j' + 1, by omega, by simpa using e2, by simpa using e3, fun v => ?_⟩
        simp only [List.modify_succ_cons, List.map_cons, pset, hi, if_false]
        rw [e4 v, h1, h2]
theorem findKey_p {kt : TypeId} (hk : PK P kt) {es : Array MapEntry} (h : es.toList.map (fun e => (e.key, e.val)) = m.map fun p => (pk p.1, p.2)) (i : Int × Int) (w : World) :
    ∃ r, (Instr.findKey kt (pk i) es.toList).run P w = .ok r w ∧ (r.map (·.2)) = pget m i ∧ ∀ j u, r = some (j, u) → j < es.size ∧ (es[j]?).map (·.key) = some (pk i) ∧ ∀ v, ((es.modify j fun e => { e with key := pk i, val := v }).toList.map fun e => (e.key, e.val)) = (pset m i v).map fun p => (pk p.1, p.2) := by
  obtain ⟨r, h1, h2, h3⟩ := findAsking_m hk i w es.toList m 0 h
  refine ⟨r, by rw [run_findKey_eq w hk.wide]; exact h1, h2, fun j u hr => ?_⟩
  obtain ⟨j', e1, e2, e3, e4⟩ := h3 j u hr
  rw [Nat.zero_add] at e1
  subst e1
  exact ⟨by simpa using e2, by simpa using e3, fun v => by rw [← e4 v, Array.toList_modify]⟩
theorem run_mapUpdate_p {t kt e : Nat} {i : Int × Int} {u : Value} (hU : P.underlying t = some (.map kt e)) (hk : PK P kt) (hm : MpP w g m) : ∃ w', (Instr.mapUpdate t (.map (some g)) (pk i) u).run P w = .ok () w' ∧ Only g w w' ∧ MpP w' g (pset m i u) := by
  have hlt := hm.lt
  obtain ⟨es, c, h1, h2⟩ := hm
  obtain ⟨r, hr, hg, hs⟩ := findKey_p hk h2 i w
  have h1' : (getObj g).run P w = .ok (.map es c) w := run_getObj_map' h1
  have hc : (Instr.checkKey false 10000 kt (pk i)).run P w = .ok () w := hk.chk false i.1 i.2 w
  cases r with
  | none =>
    refine ⟨{ w with heap := w.heap.setIfInBounds g (.map (es.push { key := pk i, val := u, born := c }) (c + 1)) }, ?_, Only.setObj _ _ _, ?_⟩
    · simp only [Instr.mapUpdate, run_underlying hU, Sem.run_bind, Result.andThen_ok, h1', hc, hr]
      simp [setObj, Sem.run, h1]
    · refine ⟨_, _, Array.getElem?_setIfInBounds_self_of_lt hlt, ?_⟩
      rw [pset_none m i u (by rw [← hg]; rfl)]
      simp [h2]
  | some p =>
    obtain ⟨j, v0⟩ := p
    obtain ⟨h3, h4, h5⟩ := hs j v0 rfl
    refine ⟨{ w with heap := w.heap.setIfInBounds g (.map (es.modify j fun e => { e with key := pk i, val := u }) c) }, ?_, Only.setObj _ _ _, ?_⟩
    · have hst : (Instr.keyThatStays (((es[j]?).map (·.key)).getD (pk i)) (pk i)).run P w = .ok (pk i) w := by
        rw [h4]
        simp [Instr.keyThatStays, Instr.sameBits, pk]
      simp only [Instr.mapUpdate, run_underlying hU, Sem.run_bind, Result.andThen_ok, h1', hc, hr, hst]
      simp [setObj, Sem.run, h1]
    · exact ⟨_, _, Array.getElem?_setIfInBounds_self_of_lt hlt, h5 u⟩
end
namespace Y
theorem lookupOkP {P : Program} {o : Oper} {n : Nat} {E : Env} {C : World → Prop} {x y : Operand} {t kt e g : Nat} {a b : Int} {m : PM} {z : Value} {sz by' : Nat} (ho : o.op = .lookup t x y true) (hU : P.underlying t = some (.map kt e)) (hk : PK P kt) (hT : TI P e z sz by') (hx : ev E x = some (.map (some g))) (hy : ev E y = some (.agg #[.int .i64 a, .int .i64 b])) (hm : ∀ w, C w → MpP w g m) :
    Yld P o n E C (.tuple #[pval m (a, b) z, .bool (pget m (a, b)).isSome]) := by
  intro A w ha hC
  obtain ⟨es, c, h1, h2⟩ := hm w hC
  obtain ⟨r, hr, hg, _⟩ := findKey_p hk h2 (a, b) w
  have h1' : (getObj g).run P w = .ok (.map es c) w := run_getObj_map' h1
  have hc : (Instr.checkKey es.isEmpty 10000 kt (.agg #[.int .i64 a, .int .i64 b])).run P w = .ok () w := hk.chk _ a b w
  have hr' : (Instr.findKey kt (.agg #[.int .i64 a, .int .i64 b]) es.toList).run P w = .ok r w := hr
  cases r with
  | none =>
    simp only [execOp, ho, ha.ev hx, ha.ev hy, Instr.lookup, run_underlying hU, Sem.run_bind, Result.andThen_ok, h1', Sem.run_pure, hc, hr', hT.zeroValue, pval, ← hg]
    rfl
  | some p =>
    simp only [execOp, ho, ha.ev hx, ha.ev hy, Instr.lookup, run_underlying hU, Sem.run_bind, Result.andThen_ok, h1', Sem.run_pure, hc, hr', pval, ← hg]
    rfl
theorem lenMapP {P : Program} {o : Oper} {n : Nat} {E : Env} {C : World → Prop} {t kt e g : Nat} {m : PM} {c : Call} (ho : o.op = .call c) (hc : c.callee = .builtin .len) (ht : c.argTypes = #[t]) (hU : P.underlying t = some (.map kt e)) (ha : evs E c.args.toList = some [.map (some g)]) (hm : ∀ w, C w → MpP w g m) :
    Yld P o n E C (.int .i64 ((m.length : Nat) : Int)) := by
  intro A w hA hC
  obtain ⟨es, cl, h1, h2⟩ := hm w hC
  obtain ⟨cb, hcb⟩ := run_builtin (P := P) (w := w) hA ho hc ha
  have hl : es.size = m.length := by
    have := congrArg List.length h2
    simpa using this
  rw [hcb]
  simp [builtin, ht, Builtin.len_, run_underlying hU, run_getObj_map' h1, hl, goInt]
end Y
section memory
variable {P : Program} {n : Nat} {ops : Array Oper} {Q : Exit → Act → World → Prop} {E : Env} {w : World} {o : Oper} {rest : List Oper} {d : Nat}
theorem WL.makeMapP {t : TypeId} (hd : o.dst = some d) (hn : d < n) (hg : o.guard = none) (ho : o.op = .makeMap t none)
    (h : ∀ g w', g = w.heap.size → Ext w w' → MpP w' g [] → WL P n ops Q rest ((d, .map (some g)) :: E) w') : WL P n ops Q (o :: rest) E w := by
  intro a ha
  have hr : (execOp a.eval o).run P w = .ok (.value (.map (some w.heap.size))) (w.alloc (.map #[] 0)) := by
    simp [execOp, ho, Instr.makeMap, run_newObj]
  refine wpList_plain hg fun K hK => wp_of_run hr (hK _ _ ?_)
  rw [hd]
  exact h _ _ rfl ((Ext.refl w).alloc _) ⟨_, _, heap_alloc_new w _, rfl⟩ _ (ha.put hn _)
theorem WL.mapUpdateP {t kt e g : Nat} {x y z : Operand} {a b : Int} {u : Value} {m : PM} (hd : o.dst = none) (hg : o.guard = none) (ho : o.op = .mapUpdate t x y z ∨ o.op = .insert t x y z) (hU : P.underlying t = some (.map kt e)) (hk : PK P kt) (hx : ev E x = some (.map (some g))) (hy : ev E y = some (.agg #[.int .i64 a, .int .i64 b])) (hz : ev E z = some u) (hm : MpP w g m)
    (h : ∀ w', Only g w w' → MpP w' g (pset m (a, b) u) → WL P n ops Q rest E w') : WL P n ops Q (o :: rest) E w := by
  intro A ha
  obtain ⟨w', hr, h1, h2⟩ := run_mapUpdate_p (i := (a, b)) (u := u) hU hk hm
  have hr : (execOp A.eval o).run P w = .ok .skip w' := by
    rcases ho with ho | ho <;> simp [execOp, ho, ha.ev hx, ha.ev hy, ha.ev hz] <;> (rw [show (Instr.mapUpdate t (.map (some g)) (.agg #[.int .i64 a, .int .i64 b]) u).run P w = .ok () w' from hr]; rfl)
  refine wpList_plain hg fun K hK => ?_
  unfold Oper.wp; rw [hr]
  exact hK _ _ (by rw [hd]; exact h w' h1 h2 _ ha)
end memory
end Go.Eng
