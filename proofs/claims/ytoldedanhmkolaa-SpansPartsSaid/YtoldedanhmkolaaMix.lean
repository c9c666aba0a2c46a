/- Regions that draw their order, whose loads float and whose calls come in one order: a walk in one order that one picks serves every order.
   Over any program. Conditions: none; nothing here speaks of a given program. -/
import Derived.Test.YtoldedanhmkolaaDraw
import Derived.Test.YtoldedanhmkolaaList
namespace Go.Eng
open Go Go.RowKit

def loudUpon (P : Program) (K : Value → World → Prop) : Result Next → Prop
  | .ok (.value v) w' => K v w'
  | .ok .skip w' => K undef w'
  | .ok (.enter f args) w' => Calls P f args w' fun e w'' => ∃ v, e = .returned v ∧ K v w''
  | _ => False
theorem loudUpon_mono {P : Program} {K K' : Value → World → Prop} (h : ∀ v w, K v w → K' v w) {r : Result Next} (hr : loudUpon P K r) : loudUpon P K' r := by
  cases r with
  | ok x w' =>
    cases x <;> simp only [loudUpon] at hr ⊢ <;> try exact hr
    · exact h _ _ hr
    · exact h _ _ hr
    · exact hr.mono fun e w ⟨v, he, hv⟩ => ⟨v, he, h _ _ hv⟩
  | halt x w' => exact hr

section
variable {P : Program} {ops : Array Oper} {C : World → Prop}
def lOp (P : Program) (ops : Array Oper) (i : Nat) (K : Act → World → Prop) (a : Act) (w : World) : Prop :=
  match ops[i]? with
  | none => K a w
  | some o => if Region.wanted o (yielded ops a.tmps) then loudUpon P (fun v w' => K (a.put o.dst v) w') ((execOp a.eval o).run P w) else K (a.put o.dst undef) w
theorem lOp_mono {i : Nat} {K K' : Act → World → Prop} {a : Act} {w : World} (h : ∀ a w, K a w → K' a w) (hh : lOp P ops i K a w) : lOp P ops i K' a w := by
  unfold lOp at *
  split
  · exact h _ _ (by simpa [*] using hh)
  · rename_i o ho
    simp only [ho] at hh
    split
    · rename_i hw; simp only [hw, if_true] at hh; exact loudUpon_mono (fun v w' => h _ _) hh
    · rename_i hw; simp only [hw] at hh; exact h _ _ hh
theorem wp_of_loud {o : Oper} {a : Act} {w : World} {K : Act → World → Prop} {Q : Exit → Act → World → Prop} (h : loudUpon P (fun v w' => K (a.put o.dst v) w') ((execOp a.eval o).run P w)) : o.wp P a w K Q := by
  unfold Oper.wp
  generalize (execOp a.eval o).run P w = r at *
  cases r with
  | ok x w' =>
    cases x <;> simp only [loudUpon] at h <;> simp only [Oper.upon]
    · exact h
    · exact h
    · exact h.mono fun e w'' ⟨v, he, hv⟩ => by subst he; exact hv
  | halt x w' => simp only [loudUpon] at h
theorem wpOp_of_lOp {i : Nat} {K : Act → World → Prop} {Q : Exit → Act → World → Prop} {a : Act} {w : World} (hh : lOp P ops i K a w) : wpOp P ops Q i K a w := by
  unfold lOp at hh
  unfold wpOp
  split
  · rename_i ho; simpa only [ho] using hh
  · rename_i o ho
    simp only [ho] at hh
    split
    · rename_i hw; simp only [hw, if_true] at hh; exact .inl (wp_of_loud hh)
    · rename_i hw; simp only [hw] at hh; exact hh
/-- Whatever order is picked from here on; the world is of the class all the while. -/
def wpAnyX (P : Program) (ops : Array Oper) (C : World → Prop) (Q : Act → World → Prop) : Nat → Array Bool → Act → World → Prop
  | 0, listed, a, w => C w ∧ Region.ready .any ops listed = [] ∧ Q a w
  | f + 1, listed, a, w => C w ∧ (Region.ready .any ops listed = [] → Q a w) ∧ ∀ i ∈ Region.ready .any ops listed, lOp P ops i (wpAnyX P ops C Q f (listed.setIfInBounds i true)) a w
theorem wpAnyX.cls {Q : Act → World → Prop} : ∀ {f : Nat} {listed : Array Bool} {a : Act} {w : World}, wpAnyX P ops C Q f listed a w → C w
  | 0, _, _, _, h => h.1
  | _ + 1, _, _, _, h => h.1
theorem wpAny_of_X {Q : Act → World → Prop} {Q' : Exit → Act → World → Prop} (hQ : ∀ a w, C w → Q a w → Q' .normal a w) : ∀ (f : Nat) (listed : Array Bool) (a : Act) (w : World), wpAnyX P ops C Q f listed a w → wpAny P .any ops Q' f listed a w
  | 0, _, _, _, h => ⟨h.2.1, hQ _ _ h.1 h.2.2⟩
  | f + 1, _, _, _, h => ⟨fun h0 => hQ _ _ h.1 (h.2.1 h0), fun i hi => wpOp_of_lOp (lOp_mono (fun a' w' => wpAny_of_X hQ f _ a' w') (h.2.2 i hi))⟩
/-- In every world of the class the operation yields v and leaves the world as it is. -/
def PureIn (P : Program) (ops : Array Oper) (C : World → Prop) (o : Oper) (v : Value) (a : Act) : Prop :=
  (Region.wanted o (yielded ops a.tmps) = true ∧ ∀ w, C w → (execOp a.eval o).run P w = .ok (.value v) w) ∨ (Region.wanted o (yielded ops a.tmps) = false ∧ v = undef)
theorem PureIn.lOp {i : Nat} {o : Oper} {v : Value} {a : Act} {w : World} (hi : ops[i]? = some o) (hC : C w) (hy : PureIn P ops C o v a) {K : Act → World → Prop} (h : K (a.put o.dst v) w) : lOp P ops i K a w := by
  unfold Eng.lOp
  simp only [hi]
  rcases hy with ⟨hw, hv⟩ | ⟨hw, rfl⟩
  · simp only [hw, if_true, hv w hC, loudUpon]; exact h
  · simp only [hw, Bool.false_eq_true, if_false]; exact h
theorem PureIn.of_same {o : Oper} {v : Value} {a a' : Act} (hy : PureIn P ops C o v a) (he : execOp a'.eval o = execOp a.eval o) (hw : Region.wanted o (yielded ops a'.tmps) = Region.wanted o (yielded ops a.tmps)) : PureIn P ops C o v a' := by
  unfold PureIn at *
  rw [he, hw]
  exact hy
theorem lOp_put {j : Nat} {oi oj : Oper} {v : Value} (hj : ops[j]? = some oj) (hap : oi.apart ops oj = true) (hsi : ∀ cs b, oi.op ≠ .select cs b) (hsj : ∀ cs b, oj.op ≠ .select cs b) {K : Act → World → Prop} {a : Act} {w : World}
    (hy : PureIn P ops C oi v a) (h : lOp P ops j K (a.put oi.dst v) w) : lOp P ops j (fun a' w' => PureIn P ops C oi v a' ∧ K (a'.put oi.dst v) w') a w := by
  obtain ⟨h1, h2, h3⟩ := Oper.apart_spec hap
  have keep : ∀ u, PureIn P ops C oi v (a.put oj.dst u) := fun u => hy.of_same (execOp_put oi hsi a oj.dst u h3) (wanted_put oi a oj.dst u h3)
  unfold lOp at *
  simp only [hj] at *
  rw [wanted_put oj a oi.dst v h1, execOp_put oj hsj a oi.dst v h1] at h
  split
  · rename_i hw
    simp only [hw, if_true] at h
    exact loudUpon_mono (fun u w' hu => ⟨keep u, by rw [← Act.put_comm a v u h2]; exact hu⟩) h
  · rename_i hw
    simp only [hw] at h
    exact ⟨keep _, by rw [← Act.put_comm a v undef h2]; exact h⟩
/-- A load that may come up now may be taken first. -/
theorem wpAnyX_first {Q : Act → World → Prop} {i : Nat} {oi : Oper} {v : Value} (hi : ops[i]? = some oi) (hsel : ∀ (j : Nat) (o : Oper) cs b, ops[j]? = some o → o.op ≠ .select cs b) :
    ∀ (f : Nat) (listed : Array Bool) (a : Act) (w : World),
      (∀ j oj, ops[j]? = some oj → j ≠ i → listed.getD j true = false → (∀ e ∈ oj.after, Region.binds .any e = true → e.on ≠ i) → oi.apart ops oj = true) →
      i ∈ Region.ready .any ops listed → PureIn P ops C oi v a → wpAnyX P ops C Q f (listed.setIfInBounds i true) (a.put oi.dst v) w → wpAnyX P ops C Q (f + 1) listed a w := by
  intro f
  induction f with
  | zero =>
    intro listed a w _ hr hy H
    refine ⟨H.1, fun h => (by rw [h] at hr; cases hr), fun j hj => ?_⟩
    by_cases hji : j = i
    · subst hji; exact hy.lOp hi H.1 H
    · have := ready_mono hj hji
      rw [H.2.1] at this
      cases this
  | succ f ih =>
    intro listed a w hfree hr hy H
    refine ⟨H.1, fun h => (by rw [h] at hr; cases hr), fun j hj => ?_⟩
    by_cases hji : j = i
    · subst hji; exact hy.lOp hi H.1 H
    · have h1 := H.2.2 j (ready_mono hj hji)
      obtain ⟨hjun, oj, hoj, hall⟩ := mem_ready.1 hj
      have hnot : ∀ e ∈ oj.after, Region.binds .any e = true → e.on ≠ i := fun e he hb heq => by
        have h1 := hall e he hb
        have h0 := (mem_ready.1 hr).1
        rw [heq] at h1
        rcases Nat.lt_or_ge i listed.size with h' | h'
        · simp [h'] at h0 h1; rw [h0] at h1; cases h1
        · simp [Array.getElem?_eq_none h'] at h1
      have h2 := lOp_put hoj (hfree j oj hoj hji hjun hnot) (fun cs b => hsel i oi cs b hi) (fun cs b => hsel j oj cs b hoj) hy h1
      have hfree' : ∀ k ok, ops[k]? = some ok → k ≠ i → (listed.setIfInBounds j true).getD k true = false →
          (∀ e ∈ ok.after, Region.binds .any e = true → e.on ≠ i) → oi.apart ops ok = true := fun k ok hk hki hun hno => by
        refine hfree k ok hk hki ?_ hno
        by_cases hjk : j = k
        · subst hjk; exact hjun
        · rw [getD_set_ne true hjk] at hun; exact hun
      refine lOp_mono (fun a' w' h3 => ?_) h2
      refine ih (listed.setIfInBounds j true) a' w' hfree' (ready_mono hr (Ne.symm hji)) h3.1 ?_
      rw [Array.setIfInBounds_comm _ _ hji]
      exact h3.2

/-- The order that one picks: a load comes first; of the calls and the new blocks each that may come up now has a branch of its own. -/
inductive Ord where
  | fin
  | load (i : Nat) (r : Ord)
  | alt (i : Nat) (r s : Ord)
  | none
def Ord.heads : Ord → List Nat
  | .alt i _ s => i :: s.heads
  | _ => []
def orderB (ops : Array Oper) : Ord → Bool → Nat → Array Bool → Bool
  | .fin, _, 0, listed => (Region.ready .any ops listed).isEmpty
  | .load i r, _, f + 1, listed => (Region.ready .any ops listed).contains i && Region.free .any ops listed i && orderB ops r false f (listed.setIfInBounds i true)
  | .alt i r s, b, f + 1, listed => (b || Region.ready .any ops listed == i :: s.heads) && orderB ops r false f (listed.setIfInBounds i true) && orderB ops s true (f + 1) listed
  | .none, b, _, _ => b
  | _, _, _, _ => false
/-- The walk in that order. -/
def wpMix (P : Program) (ops : Array Oper) (C : World → Prop) (Q : Act → World → Prop) : Ord → Act → World → Prop
  | .fin, a, w => C w ∧ Q a w
  | .load i r, a, w => ∃ o v, ops[i]? = some o ∧ PureIn P ops C o v a ∧ wpMix P ops C Q r (a.put o.dst v) w
  | .alt i r s, a, w => (C w ∧ lOp P ops i (wpMix P ops C Q r) a w) ∧ wpMix P ops C Q s a w
  | .none, _, _ => True
theorem mix_both {Q : Act → World → Prop} (hs : Region.noSelect ops = true) : ∀ (q : Ord) (b : Bool) (f : Nat) (listed : Array Bool) (a : Act) (w : World), orderB ops q b f listed = true → wpMix P ops C Q q a w →
    (b = false → wpAnyX P ops C Q f listed a w) ∧ (b = true → ∀ j ∈ q.heads, ∃ f', f = f' + 1 ∧ lOp P ops j (wpAnyX P ops C Q f' (listed.setIfInBounds j true)) a w)
  | .fin, b, 0, listed, a, w, hB, h => ⟨fun _ => ⟨h.1, by simpa [orderB] using hB, h.2⟩, fun _ j hj => by simp [Ord.heads] at hj⟩
  | .load i r, b, f + 1, listed, a, w, hB, h => by
    simp only [orderB, Bool.and_eq_true] at hB
    obtain ⟨o, v, ho, hy, hr⟩ := h
    exact ⟨fun _ => wpAnyX_first ho (Region.noSelect_spec hs) f listed a w (Region.free_spec ho hB.1.2) (by simpa using hB.1.1) hy ((mix_both hs r false f _ _ _ hB.2 hr).1 rfl), fun _ j hj => by simp [Ord.heads] at hj⟩
  | .alt i r s, b, f + 1, listed, a, w, hB, h => by
    simp only [orderB, Bool.and_eq_true, Bool.or_eq_true, beq_iff_eq] at hB
    have hi : lOp P ops i (wpAnyX P ops C Q f (listed.setIfInBounds i true)) a w := lOp_mono (fun a' w' h' => (mix_both hs r false f _ a' w' hB.1.2 h').1 rfl) h.1.2
    have hS := (mix_both hs s true (f + 1) listed a w hB.2 h.2).2 rfl
    have hall : ∀ j ∈ i :: s.heads, lOp P ops j (wpAnyX P ops C Q f (listed.setIfInBounds j true)) a w := fun j hj => by
      rcases List.mem_cons.1 hj with rfl | hj
      · exact hi
      · obtain ⟨f', e, h'⟩ := hS j hj
        cases e; exact h'
    refine ⟨fun hb => ⟨h.1.1, fun h0 => ?_, fun j hj => ?_⟩, fun _ j hj => ⟨f, rfl, hall j hj⟩⟩
    · rcases hB.1.1 with e | e
      · rw [hb] at e; cases e
      · rw [h0] at e; cases e
    · rcases hB.1.1 with e | e
      · rw [hb] at e; cases e
      · rw [e] at hj; exact hall j hj
  | .none, b, _, _, _, _, hB, _ => ⟨fun hb => (by unfold orderB at hB; rw [hb] at hB; cases hB), fun _ j hj => (by simp [Ord.heads] at hj)⟩
  | .fin, _, _ + 1, _, _, _, hB, _ => by simp [orderB] at hB
  | .load .., _, 0, _, _, _, hB, _ => by simp [orderB] at hB
  | .alt .., _, 0, _, _, _, hB, _ => by simp [orderB] at hB
def mixB (ops : Array Oper) (q : Ord) : Bool := Region.noSelect ops && orderB ops q false ops.size (Array.replicate ops.size false)
theorem wp_region_mix {id : Nat} {Q : Exit → Act → World → Prop} {a : Act} {w : World} (q : Ord) (hm : P.follows .mixedOrders = true) (hB : mixB ops q = true)
    (h : wpMix P ops C (Q .normal) q a { w with drawn := w.drawn + 1 }) : (Code.region id ops true).wp P Q a w := by
  simp only [mixB, Bool.and_eq_true] at hB
  refine wp_region_any hm ?_
  exact wpAny_of_X (fun a w _ h => h) _ _ _ _ ((mix_both hB.1 q false _ _ a _ hB.2 h).1 rfl)
end

/-! ### Facts in every world of a class -/
section
variable {C : World → Prop} {g : Nat} {t : TypeId} {cs : List Value}
theorem Blk.at_c (h : ∀ w', C w' → Blk w' g t cs) {i : Nat} {v : Value} (hv : cs[i]? = some v) : ∀ w', C w' → w'.cell? ⟨g, i, none⟩ = some v := fun w' hw => (h w' hw).cell hv
theorem Blk.row_c (h : ∀ w', C w' → Blk w' g t cs) : ∀ w', C w' → ∀ j u, cs[j]? = some u → w'.cell? ((⟨g, 0, none⟩ : Addr).add j) = some u := fun w' hw => (h w' hw).row_eq _ rfl
theorem Blk.part_c (h : ∀ w', C w' → Blk w' g t cs) {off : Nat} {sub : List Value} (hs : (cs.drop off).take sub.length = sub) : ∀ w', C w' → ∀ j u, sub[j]? = some u → w'.cell? ((⟨g, off, none⟩ : Addr).add j) = some u := fun w' hw => (h w' hw).part_eq hs _ rfl
variable {α : Type} [Inhabited α] {A : Option Addr} {n cap : Nat} {f : α → List Value} {sz : Nat} {l : List α}
theorem Ls.at_c (h : ∀ w', C w' → Ls w' A n cap f sz l) {k : Nat} (hk : k < n) {j : Nat} {u : Value} (hu : (f l[k]!)[j]? = .some u) : ∀ w', C w' → w'.cell? (elemAt A sz k j) = .some u := fun w' hw => (h w' hw).at_eq hk hu _ rfl
theorem Ls.part_c (h : ∀ w', C w' → Ls w' A n cap f sz l) {k : Nat} (hk : k < n) {off : Nat} {sub : List Value} (hs : ((f l[k]!).drop off).take sub.length = sub) : ∀ w', C w' → ∀ j u, sub[j]? = .some u → w'.cell? ((elemAt A sz k off).add j) = .some u := fun w' hw => (h w' hw).part_eq hk hs _ rfl
theorem not_mem1 {a b : Nat} (h : a ≠ b) : a ∉ [b] := by simpa using h
theorem all1 {a b : Nat} (h : a ≤ b) : ∀ c ∈ [b], a ≤ c := by simpa using h
theorem Keep.only1 {a w w' : World} {b : Nat} (h : Keep [b] a w) (x : Only b w w') : Keep [b] a w' := h.only x (.inl (by simp))
end

/-! ### The same over the frame as a list -/
section
variable {P : Program} {n : Nat} {ops : Array Oper} {C : World → Prop} {Q : Act → World → Prop} {E : Env} {w : World} {o : Oper} {i d : Nat} {v : Value} {r s : Ord}
def WX (P : Program) (n : Nat) (ops : Array Oper) (C : World → Prop) (Q : Act → World → Prop) (r : Ord) (E : Env) (w : World) : Prop := ∀ a, Ok n E a → wpMix P ops C Q r a w
theorem WX.nil (hC : C w) (h : WK n Q E w) : WX P n ops C Q .fin E w := fun a ha => ⟨hC, h a ha⟩
theorem WX.yld (hi : ops[i]? = some o) (hd : o.dst = some d) (hn : d < n) (hg : o.guard = none) (hy : Yld P o n E C v) (h : WX P n ops C Q r ((d, v) :: E) w) : WX P n ops C Q (.load i r) E w :=
  fun a ha => ⟨o, v, hi, .inl ⟨wanted_plain hg _, fun w' hw' => hy a w' ha hw'⟩, by rw [hd]; exact h _ (ha.put hn v)⟩
theorem WX.yldW {j t : Nat} {want : Bool} (hi : ops[i]? = some o) (hd : o.dst = some d) (hn : d < n) (hg : o.guard = some (j, want)) (hj : (ops[j]?).bind (·.dst) = some t) (ht : look t E = some (.bool want)) (hy : Yld P o n E C v) (h : WX P n ops C Q r ((d, v) :: E) w) : WX P n ops C Q (.load i r) E w :=
  fun a ha => ⟨o, v, hi, .inl ⟨by rw [wanted_guard ha hg hj ht]; simp, fun w' hw' => hy a w' ha hw'⟩, by rw [hd]; exact h _ (ha.put hn v)⟩
theorem WX.skip {j t : Nat} {want b : Bool} (hi : ops[i]? = some o) (hd : o.dst = some d) (hn : d < n) (hg : o.guard = some (j, want)) (hj : (ops[j]?).bind (·.dst) = some t) (ht : look t E = some (.bool b)) (hb : (b == want) = false) (h : WX P n ops C Q r ((d, undef) :: E) w) : WX P n ops C Q (.load i r) E w :=
  fun a ha => ⟨o, undef, hi, .inr ⟨by rw [wanted_guard ha hg hj ht, hb], rfl⟩, by rw [hd]; exact h _ (ha.put hn _)⟩
theorem WX.yldG {j t : Nat} {want b : Bool} (hi : ops[i]? = some o) (hd : o.dst = some d) (hn : d < n) (hg : o.guard = some (j, want)) (hj : (ops[j]?).bind (·.dst) = some t) (ht : look t E = some (.bool b)) (hy : b = want → Yld P o n E C v) (h : WX P n ops C Q r ((d, gv b want v) :: E) w) : WX P n ops C Q (.load i r) E w := by
  intro a ha
  have hh := h _ (ha.put hn (gv b want v))
  refine ⟨o, gv b want v, hi, ?_, by rw [hd]; exact hh⟩
  by_cases hb : b = want
  · left
    rw [gv_yes hb]
    exact ⟨by rw [wanted_guard ha hg hj ht, hb]; simp, fun w' hw' => hy hb a w' ha hw'⟩
  · right
    have hb' : (b == want) = false := by simp [hb]
    exact ⟨by rw [wanted_guard ha hg hj ht, hb'], by simp [gv, hb']⟩
theorem WX.yldGs {j t : Nat} {y w1 : Bool} (cs : List (Bool × Bool)) (hi : ops[i]? = some o) (hd : o.dst = some d) (hn : d < n) (hg : o.guard = some (j, w1)) (hj : (ops[j]?).bind (·.dst) = some t) (ht : look t E = some (gvs cs (.bool y))) (hy : AllEq (cs ++ [(y, w1)]) → Yld P o n E C v) (h : WX P n ops C Q r ((d, gvs (cs ++ [(y, w1)]) v) :: E) w) : WX P n ops C Q (.load i r) E w := by
  intro a ha
  have hh := h _ (ha.put hn (gvs (cs ++ [(y, w1)]) v))
  refine ⟨o, _, hi, ?_, by rw [hd]; exact hh⟩
  cases hc : allB (cs ++ [(y, w1)]) with
  | true =>
    left
    rw [gvs_yes hc]
    exact ⟨by rw [wanted_guards ha hg hj ht, hc], fun w' hw' => hy (allB_yes hc) a w' ha hw'⟩
  | false => exact .inr ⟨by rw [wanted_guards ha hg hj ht, hc], gvs_no hc _⟩
theorem WX.alt (h : WX P n ops C Q (.alt i r .none) E w) (hs : WX P n ops C Q s E w) : WX P n ops C Q (.alt i r s) E w := fun a ha => ⟨(h a ha).1, hs a ha⟩
/-- A call: the callee's contract. -/
theorem WX.call {c : Call} {f : FuncId} {args : List Value} {R : Ending → World → Prop} (hi : ops[i]? = some o) (hd : o.dst = some d) (hn : d < n) (hg : o.guard = none) (ho : o.op = .call c) (hc : c.callee = .value (.func f)) (hf : Has P f) (ha : evs E c.args.toList = some args) (hC : C w)
    (hk : Calls P f args.toArray w R) (h : ∀ e w', R e w' → ∃ v, e = .returned v ∧ WX P n ops C Q r ((d, v) :: E) w') : WX P n ops C Q (.alt i r .none) E w := by
  intro a hA
  refine ⟨⟨hC, ?_⟩, trivial⟩
  unfold lOp
  simp only [hi]
  rw [if_pos (wanted_plain hg _)]
  have hr := run_call (P := P) (w := w) (fst := #[]) (cap := #[]) hA ho hc rfl hf ha
  rw [hr]
  simp only [loudUpon]
  refine (show Calls P f (#[] ++ args.toArray ++ #[]) w R from by simpa using hk).mono fun e w' hR => ?_
  obtain ⟨v, he, hv⟩ := h e w' hR
  exact ⟨v, he, by rw [hd]; exact hv _ (hA.put hn v)⟩
/-- An operation of the chain that only yields. -/
theorem WX.yldL (hi : ops[i]? = some o) (hd : o.dst = some d) (hn : d < n) (hg : o.guard = none) (hC : C w) (hy : Yld P o n E (· = w) v) (h : WX P n ops C Q r ((d, v) :: E) w) : WX P n ops C Q (.alt i r .none) E w := by
  intro a ha
  refine ⟨⟨hC, ?_⟩, trivial⟩
  unfold lOp
  simp only [hi]
  rw [if_pos (wanted_plain hg _), hy a w ha rfl]
  simp only [loudUpon]
  rw [hd]; exact h _ (ha.put hn v)
theorem WX.mapUpdate {t kt e g : Nat} {x y z : Operand} {k : Int} {u : Value} {m : List (Int × Value)} (hi : ops[i]? = some o) (hd : o.dst = none) (hg : o.guard = none) (ho : o.op = .mapUpdate t x y z ∨ o.op = .insert t x y z) (hU : P.underlying t = some (.map kt e)) (hk : P.underlying kt = some (.int .i64)) (hx : ev E x = some (.map (some g))) (hy : ev E y = some (.int .i64 k)) (hz : ev E z = some u) (hm : Mp w g m) (hC : C w)
    (h : ∀ w', Only g w w' → Mp w' g (mset m k u) → WX P n ops C Q r E w') : WX P n ops C Q (.alt i r .none) E w := by
  intro a ha
  refine ⟨⟨hC, ?_⟩, trivial⟩
  obtain ⟨w', hr, h1, h2⟩ := run_mapUpdate_m (i := k) (u := u) hU hk hm
  have hr : (execOp a.eval o).run P w = .ok .skip w' := by
    rcases ho with ho | ho <;> simp [execOp, ho, ha.ev hx, ha.ev hy, ha.ev hz, hr]
  unfold lOp
  simp only [hi]
  rw [if_pos (wanted_plain hg _), hr]
  simp only [loudUpon]
  rw [hd]; exact h w' h1 h2 _ ha
/-- An operation that yields one value, whatever the world that it leaves. -/
def RunV (P : Program) (n : Nat) (o : Oper) (E : Env) (w : World) (R : Value → World → Prop) : Prop := ∀ a, Ok n E a → ∃ v w', (execOp a.eval o).run P w = .ok (.value v) w' ∧ R v w'
theorem WX.run {R : Value → World → Prop} (hi : ops[i]? = some o) (hd : o.dst = some d) (hn : d < n) (hg : o.guard = none) (hC : C w) (hr : RunV P n o E w R) (h : ∀ v w', R v w' → WX P n ops C Q r ((d, v) :: E) w') : WX P n ops C Q (.alt i r .none) E w := by
  intro a ha
  refine ⟨⟨hC, ?_⟩, trivial⟩
  obtain ⟨v, w', hr, hR⟩ := hr a ha
  unfold lOp
  simp only [hi]
  rw [if_pos (wanted_plain hg _), hr]
  simp only [loudUpon]
  rw [hd]; exact h v w' hR _ (ha.put hn v)
theorem Run.bslice {t e len : Nat} {parts : Array (Nat × Operand)} {ps : List (Nat × Value)} {z : Value} {zs cs : List Value} {sz by' : Nat} (ho : o.op = .buildSlice t len parts) (hU : P.underlying t = some (.slice e)) (hT : TI P e z sz by') (hp : (len * sz != 0) = true) (hs : len * sz ≤ 16777216)
    (hz : ((Array.range (len * sz)).map (z.cells[· % z.cells.size]!)) = zs.toArray) (hps : evp E parts.toList = some ps) (hf : fillP (fun i => some (i * sz, sz)) zs ps = some cs) :
    RunV P n o E w fun v w' => ∃ g, v = .slice (some ⟨g, 0, none⟩) len len ∧ g = w.heap.size ∧ Ext w w' ∧ Blk w' g e cs := by
  intro a ha
  have h0 : ¬ len * sz = 0 := by simpa using hp
  have h1 : ¬ len * sz > 2 ^ 24 := by omega
  have h3 : (parts.map fun x => (x.fst, a.eval x.snd)) = ps.toArray := by rw [← ha.evp hps, ← List.map_toArray]
  have hfill := fill_eq _ ps zs cs hf
  refine ⟨_, w.alloc (.cells cs.toArray e), ?_, w.heap.size, rfl, rfl, (Ext.refl w).alloc _, Blk.new w e cs⟩
  simp only [execOp, ho, Instr.buildSlice, Sem.run_bind, run_underlying hU, Result.andThen_ok, hT.sizeOf, h1, h0, if_false, hT.zeroValue, Sem.run_pure, hz, h3, newRow, run_newObj]
  rw [hfill]
  rfl
theorem Run.bslice0 {t e : Nat} {z : Value} {sz by' : Nat} (ho : o.op = .buildSlice t 0 #[]) (hU : P.underlying t = some (.slice e)) (hT : TI P e z sz by') :
    RunV P n o E w fun v w' => ∃ g, v = .slice (some ⟨g, 0, none⟩) 0 0 ∧ g = w.heap.size ∧ Ext w w' ∧ Blk w' g e [] := by
  intro a ha
  refine ⟨_, w.alloc (.cells #[] e), ?_, w.heap.size, rfl, rfl, (Ext.refl w).alloc _, Blk.new w e []⟩
  have h0 : (Array.map (fun _ : Nat => (default : Value)) (Array.range 0)) = #[] := by
    apply Array.eq_empty_of_size_eq_zero; simp
  simp [execOp, ho, Instr.buildSlice, run_underlying hU, hT.sizeOf, newRow, Instr.fill, h0]
section app
variable {α : Type} {f : α → List Value} {sz base e t : Nat} {l : List α} {c : Call}
theorem Run.appendB {news : List α} {g cap : Nat} {cs : List Value} {z : Value} {by' : Nat} (ho : o.op = .call c) (hc : c.callee = .builtin .append) (ht : c.argTypes = #[t, t]) (hU : P.underlying t = some (.slice e)) (hT : TI P e z sz by') (hz : z.cells.size = sz) (hp : 0 < sz)
    (ha : evs E c.args.toList = some [v, .slice (some ⟨g, 0, none⟩) news.length cap]) (own : OwnL w base e f sz v l) (hf : ∀ x, (f x).length = sz) (h1 : ∀ x, ∀ u ∈ f x, u.oneCell' = true) (hb : Blk w g e cs) (hcs : news.flatMap f = cs) (hbase : base ≤ w.heap.size) (hby : (l.length + news.length) * by' ≤ 140737488355328) (hm : l.length + news.length ≤ maxLen) :
    RunV P n o E w fun v' w' => OwnL w' base e f sz v' (l ++ news) ∧ w.grownBy w' v.ownBlock ∧ (v'.ownBlock = v.ownBlock ∨ v'.ownBlock = some w.heap.size) := by
  intro a hA
  obtain ⟨cb, hcb⟩ := run_builtin (P := P) (w := w) hA ho hc ha
  subst hcs
  obtain ⟨v', w', hr, h2, h3, h4⟩ := wp_append (P := P) (news := news) (ad := ⟨g, 0, none⟩) (cap := cap) hc ht hU hT hz hp own hf h1 (fun j u hu => by rw [add_blk, Nat.zero_add]; exact hb.cell hu) hbase hby hm o.type cb
  exact ⟨v', w', hcb.trans hr, h2, h3, h4⟩
theorem Run.appendL {news : List α} {A : Option Addr} {cap k : Nat} {z : Value} {by' : Nat} (ho : o.op = .call c) (hc : c.callee = .builtin .append) (ht : c.argTypes = #[t, t]) (hU : P.underlying t = some (.slice e)) (hT : TI P e z sz by') (hz : z.cells.size = sz) (hp : 0 < sz)
    (ha : evs E c.args.toList = some [v, .slice A k cap]) (own : OwnL w base e f sz v l) (hf : ∀ x, (f x).length = sz) (h1 : ∀ x, ∀ u ∈ f x, u.oneCell' = true) (hL : Ls w A k cap f sz news) (hbase : base ≤ w.heap.size) (hby : (l.length + news.length) * by' ≤ 140737488355328) (hm : l.length + news.length ≤ maxLen) :
    RunV P n o E w fun v' w' => OwnL w' base e f sz v' (l ++ news) ∧ w.grownBy w' v.ownBlock ∧ (v'.ownBlock = v.ownBlock ∨ v'.ownBlock = some w.heap.size) := by
  intro a hA
  have hk := hL.len
  subst hk
  have hb := hL.rd
  obtain ⟨cb, hcb⟩ := run_builtin (P := P) (w := w) hA ho hc ha
  have hcases : (∃ ad, A = some ad ∧ ∀ j u, (news.flatMap f)[j]? = some u → w.cell? (ad.add j) = some u) ∨ (A = none ∧ news = []) := by
    cases A with
    | none =>
      right
      refine ⟨rfl, ?_⟩
      cases news with
      | nil => rfl
      | cons x r => obtain ⟨ad, he, _⟩ := hb 0 x rfl; cases he
    | some ad =>
      left
      refine ⟨ad, rfl, fun j u hu => ?_⟩
      have key : ∀ (q : List α) (i0 : Nat), (∀ i x, q[i]? = some x → ∀ j u, (f x)[j]? = some u → w.cell? (ad.add ((i0 + i) * sz + j)) = some u) → ∀ j u, (q.flatMap f)[j]? = some u → w.cell? (ad.add (i0 * sz + j)) = some u := by
        intro q
        induction q with
        | nil => intro i0 _ j u hu; simp at hu
        | cons x r ih =>
          intro i0 hq j u hu
          rw [List.flatMap_cons] at hu
          by_cases hj : j < sz
          · rw [List.getElem?_append_left (by rw [hf]; exact hj)] at hu
            have := hq 0 x rfl j u hu
            simpa using this
          · rw [List.getElem?_append_right (by rw [hf]; omega), hf] at hu
            have := ih (i0 + 1) (fun i y hy j u hu => by
              have := hq (i + 1) y (by simpa using hy) j u hu
              rwa [show i0 + (i + 1) = i0 + 1 + i from by omega] at this) (j - sz) u hu
            rwa [show (i0 + 1) * sz + (j - sz) = i0 * sz + j from by rw [Nat.succ_mul]; omega] at this
      have := key news 0 (fun i x hx j u hu => by
        obtain ⟨ad', he, _, _, hc'⟩ := hb i x hx
        injection he with he; subst he
        rw [Nat.zero_add]; exact hc' j u hu) j u hu
      simpa using this
  rcases hcases with ⟨ad, rfl, hcells⟩ | ⟨rfl, rfl⟩
  · obtain ⟨v', w', hr, h2, h3, h4⟩ := wp_append (P := P) (news := news) (ad := ad) (cap := cap) hc ht hU hT hz hp own hf h1 hcells hbase hby hm o.type cb
    exact ⟨v', w', hcb.trans hr, h2, h3, h4⟩
  · refine ⟨v, w, hcb.trans ?_, by simpa using own, World.grownBy.refl w _, .inl rfl⟩
    obtain ⟨i, hi, hi1, hi2, hi3⟩ := hT
    have : (Builtin.append_ #[t, t] o.type #[v, .slice none 0 cap]).run P w = .ok v w := by
      rcases own.2 with ⟨rfl, _⟩ | ⟨g, cap', cur, rfl, _, _, hnc, _⟩
      · simp [Builtin.append_, run_underlying hU, sizeOf, typeInfo, hi, Builtin.lenOf, Builtin.firstCells]
      · simp [Builtin.append_, run_underlying hU, sizeOf, typeInfo, hi, Builtin.lenOf, Builtin.firstCells, hnc, storeCells]
    show (builtin .append c.argTypes o.type cb #[v, .slice none 0 cap]).run P w = _
    simp only [builtin, ht, Sem.run_bind, this, Result.andThen_ok, Sem.run_pure]
end app
/-- An operation of the chain whose guard is known to let it come: as if it had none. -/
theorem WX.runW {R : Value → World → Prop} {j t : Nat} {want : Bool} (hi : ops[i]? = some o) (hd : o.dst = some d) (hn : d < n) (hg : o.guard = some (j, want)) (hj : (ops[j]?).bind (·.dst) = some t) (ht : look t E = some (.bool want)) (hC : C w) (hr : RunV P n o E w R) (h : ∀ v w', R v w' → WX P n ops C Q r ((d, v) :: E) w') : WX P n ops C Q (.alt i r .none) E w := by
  intro a ha
  refine ⟨⟨hC, ?_⟩, trivial⟩
  obtain ⟨v, w', hr, hR⟩ := hr a ha
  unfold lOp
  simp only [hi]
  rw [if_pos (by rw [wanted_guard ha hg hj ht]; simp), hr]
  simp only [loudUpon]
  rw [hd]; exact h v w' hR _ (ha.put hn v)
theorem WX.callW {c : Call} {f : FuncId} {args : List Value} {R : Ending → World → Prop} {j t : Nat} {want : Bool} (hi : ops[i]? = some o) (hd : o.dst = some d) (hn : d < n) (hg : o.guard = some (j, want)) (hj : (ops[j]?).bind (·.dst) = some t) (ht : look t E = some (.bool want)) (ho : o.op = .call c) (hc : c.callee = .value (.func f)) (hf : Has P f) (ha : evs E c.args.toList = some args) (hC : C w)
    (hk : Calls P f args.toArray w R) (h : ∀ e w', R e w' → ∃ v, e = .returned v ∧ WX P n ops C Q r ((d, v) :: E) w') : WX P n ops C Q (.alt i r .none) E w := by
  intro a hA
  refine ⟨⟨hC, ?_⟩, trivial⟩
  unfold lOp
  simp only [hi]
  rw [if_pos (by rw [wanted_guard hA hg hj ht]; simp)]
  have hr := run_call (P := P) (w := w) (fst := #[]) (cap := #[]) hA ho hc rfl hf ha
  rw [hr]
  simp only [loudUpon]
  refine (show Calls P f (#[] ++ args.toArray ++ #[]) w R from by simpa using hk).mono fun e w' hR => ?_
  obtain ⟨v, he, hv⟩ := h e w' hR
  exact ⟨v, he, by rw [hd]; exact hv _ (hA.put hn v)⟩
/-- What a piece of code leaves, said once for all its ways. -/
theorem WC.cut {Q : Exit → Act → World → Prop} {c : Code} (Ek : Env) (F : World → Prop) (R : Env → World → Prop) (_hk : Sub Ek E) (_hF : F w) (h1 : WC P n c (fun e a w => e = .normal ∧ ∃ Eo, R Eo w ∧ F w ∧ Ok n (Eo ++ Ek) a) E w) (h2 : ∀ Eo w', R Eo w' → F w' → WK n (Q .normal) (Eo ++ Ek) w') : WC P n c Q E w := by
  intro a ha
  refine wp_mono (h1 a ha) fun e a w h => ?_
  obtain ⟨rfl, Eo, hR, hF, hok⟩ := h
  exact h2 Eo w hR hF a hok
theorem WK.cut {Ek : Env} {F : World → Prop} {R : Env → World → Prop} (Eo : Env) (hs : Sub (Eo ++ Ek) E) (hR : R Eo w) (hF : F w) : WK n (fun a w => Exit.normal = .normal ∧ ∃ Eo, R Eo w ∧ F w ∧ Ok n (Eo ++ Ek) a) E w := fun _ ha => ⟨rfl, Eo, hR, hF, ha.sub hs⟩
theorem WC.regionX {Q : Exit → Act → World → Prop} {id : Nat} {l : List Oper} (C : World → Prop) (seq : Ord) (_hC : C w) (hm : P.follows .mixedOrders = true) (hB : mixB l.toArray seq = true)
    (h : ∀ w1, Ext w w1 → WX P n l.toArray C (Q .normal) seq E w1) : WC P n (.region id l.toArray true) Q E w :=
  fun a ha => wp_region_mix seq hm hB (h _ ((Ext.refl w).drawn _) a ha)
end
end Go.Eng
