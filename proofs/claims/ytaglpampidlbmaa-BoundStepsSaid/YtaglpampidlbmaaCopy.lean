/- The builtin copy into a row of the call's own whose elements are one cell each; maps under what a call leaves alone that changes a box and its row. Over any program. Conditions: none. -/
import Derived.Test.YtaglpampidlbmaaTwo
import Derived.Test.YtaglpampidlbmaaMapP
import Derived.Test.YtaglpampidlbmaaStore
import Derived.Test.YtaglpampidlbmaaMix
import Derived.Laws.CopyRow
namespace Go.Eng
open Go Go.RowKit
theorem flat1 {α : Type} {f : α → List Value} (hf : ∀ x, (f x).length = 1) : ∀ (l : List α), (l.flatMap f).length = l.length
  | [] => rfl
  | x :: r => by rw [List.flatMap_cons, List.length_append, hf, flat1 hf r, List.length_cons]; omega
theorem flat1_take {α : Type} {f : α → List Value} (hf : ∀ x, (f x).length = 1) : ∀ (l : List α) (k : Nat), (l.take k).flatMap f = (l.flatMap f).take k
  | [], k => by simp
  | x :: r, 0 => by simp
  | x :: r, k + 1 => by
    rw [List.take_succ_cons, List.flatMap_cons, List.flatMap_cons, flat1_take hf r k]
    obtain ⟨u, hu⟩ := List.length_eq_one_iff.1 (hf x)
    rw [hu]; rfl
theorem flat1_drop {α : Type} {f : α → List Value} (hf : ∀ x, (f x).length = 1) : ∀ (l : List α) (k : Nat), (l.drop k).flatMap f = (l.flatMap f).drop k
  | [], k => by simp
  | x :: r, 0 => by simp
  | x :: r, k + 1 => by
    rw [List.drop_succ_cons, List.flatMap_cons, flat1_drop hf r k]
    obtain ⟨u, hu⟩ := List.length_eq_one_iff.1 (hf x)
    rw [hu]; rfl
section
variable {P : Program} {n : Nat} {ops : Array Oper} {Q : Exit → Act → World → Prop} {E : Env} {w : World} {o : Oper} {rest : List Oper} {d : Nat} {α : Type} {f : α → List Value} {base e : Nat} {l s : List α}
theorem run_copyE {t ty : TypeId} {A B : Option Addr} {len cap k m c' : Nat} {A' : Option Addr} {cap2 : Nat} (hU : P.underlying t = some (.slice e)) (hs : (P.info? e).map (·.size) = some 1) (own : OwnL w base e f 1 (.slice A len cap) l) (src : Ls w B m c' f 1 s)
    (hf : ∀ x, (f x).length = 1) (h1 : ∀ x, ∀ u ∈ f x, u.oneCell' = true) (hk : k < len) (hm : 0 < m) (hA : A' = (A.map (·.add k))) :
    ∃ w', (Builtin.copy_ #[t, t] ty #[.slice A' (len - k) cap2, .slice B m c']).run P w = .ok (.int .i64 ((min m (len - k) : Nat) : Int)) w' ∧ OwnL w' base e f 1 (.slice A len cap) (l.take k ++ s.take (min m (len - k)) ++ l.drop (k + min m (len - k))) ∧ Gr w w' (Value.slice A len cap).ownBlock := by
  rcases own.2 with ⟨hs', h0⟩ | ⟨g, cap', cur, hs', g1, g2, g3, g4, g5, g6⟩
  · injection hs' with _ e1; omega
  · injection hs' with e1 e2 e3
    subst e1; subst e2; subst e3
    obtain ⟨ad, rfl⟩ := Option.isSome_iff_exists.1 (src.isSome hm)
    have hA' : A' = some ⟨g, k, none⟩ := by rw [hA, Option.map_some, add_blk, Nat.zero_add]
    subst hA'
    have hc5 : cur.toList.length = cap := by simpa using g5
    have hsl := src.len
    have hcs : ((s.take (min m (l.length - k))).flatMap f).length = min m (l.length - k) := by rw [flat1 hf, List.length_take]; omega
    have hmn : Nat.min m (l.length - k) = min m (l.length - k) := rfl
    have hcs' : cur.size = cap := by simpa using g5
    have hr := run_copy_row P w t t ty e g k (l.length - k) cap2 ad m c' cur e ((s.take (min m (l.length - k))).flatMap f) hU hs g2 (by rw [hcs, hmn])
      (fun j v hv => by
        rw [flat1_take hf] at hv
        have hj : j < min m (l.length - k) := by
          have := (List.getElem?_eq_some_iff.1 hv).1
          rw [List.length_take] at this; omega
        rw [List.getElem?_take_of_lt hj] at hv
        have hjs : j < s.length := by omega
        obtain ⟨ad', he, _, _, hc⟩ := src.rd j s[j] (List.getElem?_eq_getElem hjs)
        injection he with he; subst he
        have hx : (f s[j])[0]? = some v := by
          have hlen0 : 0 < (f s[j]).length := by rw [hf]; omega
          have := getElem?_flatMap hf (l := s) (i := j) (j := 0) (List.getElem?_eq_getElem hjs) (List.getElem?_eq_getElem hlen0)
          rw [Nat.mul_one, Nat.add_zero, hv] at this
          rw [List.getElem?_eq_getElem hlen0]; exact this.symm
        have := hc 0 v hx
        rwa [Nat.mul_one, Nat.add_zero] at this)
      (by rw [hcs, hcs']; omega)
      (fun v hv => by obtain ⟨x, _, hx⟩ := List.mem_flatMap.1 hv; exact h1 x v hx)
    rw [hcs] at hr
    refine ⟨_, hr, ⟨?_, .inr ⟨g, cap, _, ?_, g1, setRow_heap w g cur _ e _ g2, ?_, g4, ?_, ?_⟩⟩, ?_⟩
    · rw [flat1 hf]; omega
    · simp only [List.length_append, List.length_take, List.length_drop]
      congr 1; omega
    · simp only [List.length_append, List.length_take, List.length_drop]; omega
    · simp only [List.size_toArray, List.length_append, List.length_take, List.length_drop, hcs]; omega
    · have hll : (l.take k ++ s.take (min m (l.length - k)) ++ l.drop (k + min m (l.length - k))).length = l.length := by
        simp only [List.length_append, List.length_take, List.length_drop]; omega
      rw [hll]
      rw [Nat.mul_one] at g6 ⊢
      simp only [List.flatMap_append]
      rw [flat1_take hf l, flat1_drop hf l, ← g6]
      have e1 : (cur.toList.take k).length = k := by rw [List.length_take]; omega
      have e2 : (cur.toList.take l.length).take k = cur.toList.take k := by rw [List.take_take]; congr 1; omega
      rw [e2]
      have e3 : (cur.toList.take k ++ (s.take (min m (l.length - k))).flatMap f).length = k + min m (l.length - k) := by rw [List.length_append, e1, hcs]
      rw [List.take_append, e3, List.take_of_length_le (by rw [e3]; omega), List.drop_take]
    · refine ⟨⟨rfl, rfl, rfl, by simp [World.setRow], fun j _ hne => ?_⟩, Dle.of (Nat.le_refl _)⟩
      have hj : j ≠ g := fun hh => hne (by rw [hh]; rfl)
      simp [World.setRow, Array.getElem?_modify, Ne.symm hj]
theorem run_copyB {a : Act} {c : Call} {args : List Value} (hA : Ok n E a) (ho : o.op = .call c) (hc : c.callee = .builtin .copy) (ha : evs E c.args.toList = some args) {v : Value} {w' : World}
    (hr : (Builtin.copy_ c.argTypes o.type args.toArray).run P w = .ok v w') : (execOp a.eval o).run P w = .ok (.value v) w' := by
  obtain ⟨cb, hcb⟩ := run_builtin (P := P) (w := w) hA ho hc ha
  rw [hcb]
  simp only [builtin, Sem.run_bind, hr, Result.andThen_ok, Sem.run_pure]
/-- copy(v, s) .. -/
theorem WL.copy0 {t : TypeId} {A B : Option Addr} {len cap m c' : Nat} {c : Call} (hd : o.dst = some d) (hn : d < n) (hg : o.guard = none) (ho : o.op = .call c) (hc : c.callee = .builtin .copy) (ht : c.argTypes = #[t, t]) (hU : P.underlying t = some (.slice e)) (hs : (P.info? e).map (·.size) = some 1)
    (ha : evs E c.args.toList = some [.slice A len cap, .slice B m c']) (own : OwnL w base e f 1 (.slice A len cap) l) (src : Ls w B m c' f 1 s) (hf : ∀ x, (f x).length = 1) (h1 : ∀ x, ∀ u ∈ f x, u.oneCell' = true) (hk : 0 < len) (hm : 0 < m)
    (h : ∀ w', OwnL w' base e f 1 (.slice A len cap) (s.take (min m len) ++ l.drop (min m len)) → Gr w w' (Value.slice A len cap).ownBlock → WL P n ops Q rest ((d, .int .i64 ((min m len : Nat) : Int)) :: E) w') : WL P n ops Q (o :: rest) E w := by
  intro a hA
  obtain ⟨w', hr, h2, h3⟩ := run_copyE (P := P) (ty := o.type) (cap2 := cap) hU hs own src hf h1 hk hm (show A = A.map (·.add 0) by cases A with
    | none => rfl
    | some ad => simp [Addr.add])
  simp only [Nat.sub_zero, Nat.zero_add, List.take_zero, List.nil_append] at hr h2
  refine wpList_plain hg fun K hK => wp_of_run (run_copyB hA ho hc ha (by rw [ht]; exact hr)) (hK _ _ ?_)
  rw [hd]
  exact h w' h2 h3 _ (hA.put hn _)
/-- .. and copy(v[k:], s). -/
theorem WL.copyE {k : Nat} {t : TypeId} {A B : Option Addr} {len cap m c' : Nat} {c : Call} (hd : o.dst = some d) (hn : d < n) (hg : o.guard = none) (ho : o.op = .call c) (hc : c.callee = .builtin .copy) (ht : c.argTypes = #[t, t]) (hU : P.underlying t = some (.slice e)) (hs : (P.info? e).map (·.size) = some 1)
    (ha : evs E c.args.toList = some [.slice (if cap = k then A else A.map (·.add (k * 1))) (len - k) (cap - k), .slice B m c']) (own : OwnL w base e f 1 (.slice A len cap) l) (src : Ls w B m c' f 1 s) (hf : ∀ x, (f x).length = 1) (h1 : ∀ x, ∀ u ∈ f x, u.oneCell' = true) (hk : k < len) (hm : 0 < m)
    (h : ∀ w', OwnL w' base e f 1 (.slice A len cap) (l.take k ++ s.take (min m (len - k)) ++ l.drop (k + min m (len - k))) → Gr w w' (Value.slice A len cap).ownBlock → WL P n ops Q rest ((d, .int .i64 ((min m (len - k) : Nat) : Int)) :: E) w') : WL P n ops Q (o :: rest) E w := by
  intro a hA
  have hle := own.form
  obtain ⟨A2, cap2, hv, hle1, hle2⟩ := hle
  injection hv with _ hv2 hv3
  have hne : cap ≠ k := by omega
  rw [if_neg hne, Nat.mul_one] at ha
  obtain ⟨w', hr, h2, h3⟩ := run_copyE (P := P) (ty := o.type) (cap2 := cap - k) hU hs own src hf h1 hk hm rfl
  refine wpList_plain hg fun K hK => wp_of_run (run_copyB hA ho hc ha (by rw [ht]; exact hr)) (hK _ _ ?_)
  rw [hd]
  exact h w' h2 h3 _ (hA.put hn _)
theorem Run.copyE {k : Nat} {t : TypeId} {A B : Option Addr} {len cap m c' : Nat} {c : Call} (ho : o.op = .call c) (hc : c.callee = .builtin .copy) (ht : c.argTypes = #[t, t]) (hU : P.underlying t = some (.slice e)) (hs : (P.info? e).map (·.size) = some 1)
    (ha : evs E c.args.toList = some [.slice (if cap = k then A else A.map (·.add (k * 1))) (len - k) (cap - k), .slice B m c']) (own : OwnL w base e f 1 (.slice A len cap) l) (src : Ls w B m c' f 1 s) (hf : ∀ x, (f x).length = 1) (h1 : ∀ x, ∀ u ∈ f x, u.oneCell' = true) (hk : k < len) (hm : 0 < m) :
    RunV P n o E w fun v' w' => v' = .int .i64 ((min m (len - k) : Nat) : Int) ∧ OwnL w' base e f 1 (.slice A len cap) (l.take k ++ s.take (min m (len - k)) ++ l.drop (k + min m (len - k))) ∧ Gr w w' (Value.slice A len cap).ownBlock := by
  intro a hA
  have hle := own.form
  obtain ⟨A2, cap2, hv, hle1, hle2⟩ := hle
  injection hv with _ hv2 hv3
  have hne : cap ≠ k := by omega
  rw [if_neg hne, Nat.mul_one] at ha
  obtain ⟨w', hr, h2, h3⟩ := run_copyE (P := P) (ty := o.type) (cap2 := cap - k) hU hs own src hf h1 hk hm rfl
  exact ⟨_, w', run_copyB hA ho hc ha (by rw [ht]; exact hr), rfl, h2, h3⟩
end
section
variable {g b : Nat} {u v : Value} {w w' : World} {m : PM}
theorem MpP.two (h : MpP w b m) (x : Two g u w w') (hb : b ≠ g) (hu : u.ownBlock ≠ some b) : MpP w' b m := h.of_block (x.block b h.lt hb hu)
theorem ne_twoMP (h : NB w u v) (hu : u.ownBlock ≠ some b) (m' : MpP w b m) : v.ownBlock ≠ some b := fun e => by
  rcases h b e with q | q
  · exact hu q
  · have := m'.lt; omega
theorem ne_old {t : TypeId} {cs : List Value} (h : Blk w b t cs) (hg : w.heap.size ≤ g) : b ≠ g := by have := h.lt; omega
theorem ne_oldM {m : List (Int × Value)} (h : Mp w b m) (hg : w.heap.size ≤ g) : b ≠ g := by have := h.lt; omega
theorem ne_oldMP (h : MpP w b m) (hg : w.heap.size ≤ g) : b ≠ g := by have := h.lt; omega
theorem ne_oldO {α : Type} {f : α → List Value} {sz base e : Nat} {l : List α} (h : OwnL w base e f sz v l) (hg : w.heap.size ≤ g) : v.ownBlock ≠ some g := fun hh => by have := (h.lt hh).2; omega
end
section
variable {P : Program} {n : Nat} {ops : Array Oper} {C : World → Prop} {Q : Act → World → Prop} {r : Ord} {E : Env} {w : World} {o : Oper} {i d : Nat}
/-- By cases of a Bool of the frame. -/
theorem WX.split {t : Nat} {b : Bool} (ht : look t E = some (.bool b)) (h1 : b = true → WX P n ops C Q r ((t, .bool true) :: E) w) (h2 : b = false → WX P n ops C Q r ((t, .bool false) :: E) w) : WX P n ops C Q r E w := by
  intro a ha
  cases b with
  | true => exact h1 rfl a (ha.again ht)
  | false => exact h2 rfl a (ha.again ht)
theorem wanted_undef {a : Act} (ha : Ok n E a) {j t : Nat} {want : Bool} (hg : o.guard = some (j, want)) (hj : (ops[j]?).bind (·.dst) = some t) (ht : look t E = some undef) : Region.wanted o (yielded ops a.tmps) = false := by
  have : yielded ops a.tmps j = none := by simp [Go.yielded, hj, ha.at_ t _ ht, undef]
  simp [Region.wanted, hg, this]
theorem WX.skipU {j t : Nat} {want : Bool} (hi : ops[i]? = some o) (hd : o.dst = some d) (hn : d < n) (hg : o.guard = some (j, want)) (hj : (ops[j]?).bind (·.dst) = some t) (ht : look t E = some undef)
    (h : WX P n ops C Q r ((d, undef) :: E) w) : WX P n ops C Q (.load i r) E w :=
  fun a ha => ⟨o, undef, hi, .inr ⟨wanted_undef ha hg hj ht, rfl⟩, by rw [hd]; exact h _ (ha.put hn _)⟩
theorem WX.skipA {j t : Nat} {want b : Bool} (hi : ops[i]? = some o) (hd : o.dst = some d) (hn : d < n) (hg : o.guard = some (j, want)) (hj : (ops[j]?).bind (·.dst) = some t) (ht : look t E = some (.bool b)) (hb : (b == want) = false) (hC : C w)
    (h : WX P n ops C Q r ((d, undef) :: E) w) : WX P n ops C Q (.alt i r .none) E w := by
  intro a ha
  refine ⟨⟨hC, ?_⟩, trivial⟩
  unfold lOp
  simp only [hi]
  rw [if_neg (by rw [wanted_guard ha hg hj ht, hb]; simp), hd]
  exact h _ (ha.put hn _)
end
end Go.Eng
