/- Regions that draw their order, whose loads float and whose calls come in one order: a walk in one order that one picks serves every order.
   Over any program. Conditions: none; nothing here speaks of a given program. -/
import Derived.Test.YteaalclidffjgaaDoorDraw
import Derived.Test.YteaalclidffjgaaDoorList
namespace Go.Eng
open Go Go.RowKit

def loudUpon (P : Program) (K : Value → World → Prop) : Result Next → Prop
  | .ok (.value v) w' => K v w'
  | .ok .skip w' => K undef w'
  | .ok (.enter f args) w' => Calls P f args w' fun e w'' => ∃ v, e = .returned v ∧ K v w''
  | _ => False
theorem loudUpon_mono {P : Program} {K K' : Value → World → Prop} (h : ∀ v w, K v w → K' v w) {r : Result Next} (hr : loudUpon P K r) : loudUpon P K' r := by
  cases r with
  | ok x w' =>
    cases x <;> simp only [loudUpon] at hr ⊢ <;> try exact hr
    · exact h _ _ hr
    · exact h _ _ hr
    · exact hr.mono fun e w ⟨v, he, hv⟩ => ⟨v, he, h _ _ hv⟩
  | halt x w' => exact hr

section
variable {P : Program} {ops : Array Oper} {C : World → Prop}
def lOp (P : Program) (ops : Array Oper) (i : Nat) (K : Act → World → Prop) (a : Act) (w : World) : Prop :=
  match ops[i]? with
  | none => K a w
  | some o => if Region.wanted o (yielded ops a.tmps) then loudUpon P (fun v w' => K (a.put o.dst v) w') ((execOp a.eval o).run P w) else K (a.put o.dst undef) w
theorem lOp_mono {i : Nat} {K K' : Act → World → Prop} {a : Act} {w : World} (h : ∀ a w, K a w → K' a w) (hh : lOp P ops i K a w) : lOp P ops i K' a w := by
  unfold lOp at *
  split
  · exact h _ _ (by simpa [*] using hh)
  · rename_i o ho
    simp only [ho] at hh
    split
    · rename_i hw; simp only [hw, if_true] at hh; exact loudUpon_mono (fun v w' => h _ _) hh
    · rename_i hw; simp only [hw] at hh; exact h _ _ hh
theorem wp_of_loud {o : Oper} {a : Act} {w : World} {K : Act → World → Prop} {Q : Exit → Act → World → Prop} (h : loudUpon P (fun v w' => K (a.put o.dst v) w') ((execOp a.eval o).run P w)) : o.wp P a w K Q := by
  unfold Oper.wp
  generalize (execOp a.eval o).run P w = r at *
  cases r with
  | ok x w' =>
    cases x <;> simp only [loudUpon] at h <;> simp only [Oper.upon]
    · exact h
    · exact h
    · exact h.mono fun e w'' ⟨v, he, hv⟩ => by subst he; exact hv
  | halt x w' => simp only [loudUpon] at h
theorem wpOp_of_lOp {i : Nat} {K : Act → World → Prop} {Q : Exit → Act → World → Prop} {a : Act} {w : World} (hh : lOp P ops i K a w) : wpOp P ops Q i K a w := by
  unfold lOp at hh
  unfold wpOp
  split
  · rename_i ho; simpa only [ho] using hh
  · rename_i o ho
    simp only [ho] at hh
    split
    · rename_i hw; simp only [hw, if_true] at hh; exact .inl (wp_of_loud hh)
    · rename_i hw; simp only [hw] at hh; exact hh
/-- Whatever order is picked from here on; the world is of the class all the while. -/
def wpAnyX (P : Program) (ops : Array Oper) (C : World → Prop) (Q : Act → World → Prop) : Nat → Array Bool → Act → World → Prop
  | 0, listed, a, w => C w ∧ Region.ready .any ops listed = [] ∧ Q a w
  | f + 1, listed, a, w => C w ∧ (Region.ready .any ops listed = [] → Q a w) ∧ ∀ i ∈ Region.ready .any ops listed, lOp P ops i (wpAnyX P ops C Q f (listed.setIfInBounds i true)) a w
theorem wpAnyX.cls {Q : Act → World → Prop} : ∀ {f : Nat} {listed : Array Bool} {a : Act} {w : World}, wpAnyX P ops C Q f listed a w → C w
  | 0, _, _, _, h => h.1
  | _ + 1, _, _, _, h => h.1
theorem wpAny_of_X {Q : Act → World → Prop} {Q' : Exit → Act → World → Prop} (hQ : ∀ a w, C w → Q a w → Q' .normal a w) : ∀ (f : Nat) (listed : Array Bool) (a : Act) (w : World), wpAnyX P ops C Q f listed a w → wpAny P .any ops Q' f listed a w
  | 0, _, _, _, h => ⟨h.2.1, hQ _ _ h.1 h.2.2⟩
  | f + 1, _, _, _, h => ⟨fun h0 => hQ _ _ h.1 (h.2.1 h0), fun i hi => wpOp_of_lOp (lOp_mono (fun a' w' => wpAny_of_X hQ f _ a' w') (h.2.2 i hi))⟩
/-- In every world of the class the operation yields v and leaves the world as it is. -/
def PureIn (P : Program) (ops : Array Oper) (C : World → Prop) (o : Oper) (v : Value) (a : Act) : Prop :=
  (Region.wanted o (yielded ops a.tmps) = true ∧ ∀ w, C w → (execOp a.eval o).run P w = .ok (.value v) w) ∨ (Region.wanted o (yielded ops a.tmps) = false ∧ v = undef)
theorem PureIn.lOp {i : Nat} {o : Oper} {v : Value} {a : Act} {w : World} (hi : ops[i]? = some o) (hC : C w) (hy : PureIn P ops C o v a) {K : Act → World → Prop} (h : K (a.put o.dst v) w) : lOp P ops i K a w := by
  unfold Eng.lOp
  simp only [hi]
  rcases hy with ⟨hw, hv⟩ | ⟨hw, rfl⟩
  · simp only [hw, if_true, hv w hC, loudUpon]; exact h
  · simp only [hw, Bool.false_eq_true, if_false]; exact h
theorem PureIn.of_same {o : Oper} {v : Value} {a a' : Act} (hy : PureIn P ops C o v a) (he : execOp a'.eval o = execOp a.eval o) (hw : Region.wanted o (yielded ops a'.tmps) = Region.wanted o (yielded ops a.tmps)) : PureIn P ops C o v a' := by
  unfold PureIn at *
  rw [he, hw]
  exact hy
theorem lOp_put {j : Nat} {oi oj : Oper} {v : Value} (hj : ops[j]? = some oj) (hap : oi.apart ops oj = true) (hsi : ∀ cs b, oi.op ≠ .select cs b) (hsj : ∀ cs b, oj.op ≠ .select cs b) {K : Act → World → Prop} {a : Act} {w : World}
    (hy : PureIn P ops C oi v a) (h : lOp P ops j K (a.put oi.dst v) w) : lOp P ops j (fun a' w' => PureIn P ops C oi v a' ∧ K (a'.put oi.dst v) w') a w := by
  obtain ⟨h1, h2, h3⟩ := Oper.apart_spec hap
  have keep : ∀ u, PureIn P ops C oi v (a.put oj.dst u) := fun u => hy.of_same (execOp_put oi hsi a oj.dst u h3) (wanted_put oi a oj.dst u h3)
  unfold lOp at *
  simp only [hj] at *
  rw [wanted_put oj a oi.dst v h1, execOp_put oj hsj a oi.dst v h1] at h
  split
  · rename_i hw
    simp only [hw, if_true] at h
    exact loudUpon_mono (fun u w' hu => ⟨keep u, by rw [← Act.put_comm a v u h2]; exact hu⟩) h
  · rename_i hw
    simp only [hw] at h
    exact ⟨keep _, by rw [← Act.put_comm a v undef h2]; exact h⟩
/-- A load that may come up now may be taken first. -/
theorem wpAnyX_first {Q : Act → World → Prop} {i : Nat} {oi : Oper} {v : Value} (hi : ops[i]? = some oi) (hsel : ∀ (j : Nat) (o : Oper) cs b, ops[j]? = some o → o.op ≠ .select cs b) :
    ∀ (f : Nat) (listed : Array Bool) (a : Act) (w : World),
      (∀ j oj, ops[j]? = some oj → j ≠ i → listed.getD j true = false → (∀ e ∈ oj.after, Region.binds .any e = true → e.on ≠ i) → oi.apart ops oj = true) →
      i ∈ Region.ready .any ops listed → PureIn P ops C oi v a → wpAnyX P ops C Q f (listed.setIfInBounds i true) (a.put oi.dst v) w → wpAnyX P ops C Q (f + 1) listed a w := by
  intro f
  induction f with
  | zero =>
    intro listed a w _ hr hy H
    refine ⟨H.1, fun h => (by rw [h] at hr; cases hr), fun j hj => ?_⟩
    by_cases hji : j = i
    · subst hji; exact hy.lOp hi H.1 H
    · have := ready_mono hj hji
      rw [H.2.1] at this
      cases this
  | succ f ih =>
    intro listed a w hfree hr hy H
    refine ⟨H.1, fun h => (by rw [h] at hr; cases hr), fun j hj => ?_⟩
    by_cases hji : j = i
    · subst hji; exact hy.lOp hi H.1 H
    · have h1 := H.2.2 j (ready_mono hj hji)
      obtain ⟨hjun, oj, hoj, hall⟩ := mem_ready.1 hj
      have hnot : ∀ e ∈ oj.after, Region.binds .any e = true → e.on ≠ i := fun e he hb heq => by
        have h1 := hall e he hb
        have h0 := (mem_ready.1 hr).1
        rw [heq] at h1
        rcases Nat.lt_or_ge i listed.size with h' | h'
        · simp [h'] at h0 h1; rw [h0] at h1; cases h1
        · simp [Array.getElem?_eq_none h'] at h1
      have h2 := lOp_put hoj (hfree j oj hoj hji hjun hnot) (fun cs b => hsel i oi cs b hi) (fun cs b => hsel j oj cs b hoj) hy h1
      have hfree' : ∀ k ok, ops[k]? = some ok → k ≠ i → (listed.setIfInBounds j true).getD k true = false →
          (∀ e ∈ ok.after, Region.binds .any e = true → e.on ≠ i) → oi.apart ops ok = true := fun k ok hk hki hun hno => by
        refine hfree k ok hk hki ?_ hno
        by_cases hjk : j = k
        · subst hjk; exact hjun
        · rw [getD_set_ne true hjk] at hun; exact hun
      refine lOp_mono (fun a' w' h3 => ?_) h2
      refine ih (listed.setIfInBounds j true) a' w' hfree' (ready_mono hr (Ne.symm hji)) h3.1 ?_
      rw [Array.setIfInBounds_comm _ _ hji]
      exact h3.2

/-- The order that one picks: a load comes first; of the calls and the new blocks each that may come up now has a branch of its own. -/
inductive Ord where
  | fin
  | load (i : Nat) (r : Ord)
  | alt (i : Nat) (r s : Ord)
  | none
def Ord.heads : Ord → List Nat
  | .alt i _ s => i :: s.heads
  | _ => []
def orderB (ops : Array Oper) : Ord → Bool → Nat → Array Bool → Bool
  | .fin, _, 0, listed => (Region.ready .any ops listed).isEmpty
  | .load i r, _, f + 1, listed => (Region.ready .any ops listed).contains i && Region.free .any ops listed i && orderB ops r false f (listed.setIfInBounds i true)
  | .alt i r s, b, f + 1, listed => (b || (Region.ready .any ops listed).all ((i :: s.heads).contains ·)) && (Region.ready .any ops listed).contains i && orderB ops r false f (listed.setIfInBounds i true) && orderB ops s true (f + 1) listed
  | .none, b, _, _ => b
  | _, _, _, _ => false
/-- The walk in that order. -/
def wpMix (P : Program) (ops : Array Oper) (C : World → Prop) (Q : Act → World → Prop) : Ord → Act → World → Prop
  | .fin, a, w => C w ∧ Q a w
  | .load i r, a, w => ∃ o v, ops[i]? = some o ∧ PureIn P ops C o v a ∧ wpMix P ops C Q r (a.put o.dst v) w
  | .alt i r s, a, w => (C w ∧ lOp P ops i (wpMix P ops C Q r) a w) ∧ wpMix P ops C Q s a w
  | .none, _, _ => True
theorem mix_both {Q : Act → World → Prop} (hs : Region.noSelect ops = true) : ∀ (q : Ord) (b : Bool) (f : Nat) (listed : Array Bool) (a : Act) (w : World), orderB ops q b f listed = true → wpMix P ops C Q q a w →
    (b = false → wpAnyX P ops C Q f listed a w) ∧ (b = true → ∀ j ∈ q.heads, ∃ f', f = f' + 1 ∧ lOp P ops j (wpAnyX P ops C Q f' (listed.setIfInBounds j true)) a w)
  | .fin, b, 0, listed, a, w, hB, h => ⟨fun _ => ⟨h.1, by simpa [orderB] using hB, h.2⟩, fun _ j hj => by simp [Ord.heads] at hj⟩
  | .load i r, b, f + 1, listed, a, w, hB, h => by
    simp only [orderB, Bool.and_eq_true] at hB
    obtain ⟨o, v, ho, hy, hr⟩ := h
    exact ⟨fun _ => wpAnyX_first ho (Region.noSelect_spec hs) f listed a w (Region.free_spec ho hB.1.2) (by simpa using hB.1.1) hy ((mix_both hs r false f _ _ _ hB.2 hr).1 rfl), fun _ j hj => by simp [Ord.heads] at hj⟩
  | .alt i r s, b, f + 1, listed, a, w, hB, h => by
    simp only [orderB, Bool.and_eq_true, Bool.or_eq_true, List.all_eq_true, List.contains_iff_mem] at hB
    have hi : lOp P ops i (wpAnyX P ops C Q f (listed.setIfInBounds i true)) a w := lOp_mono (fun a' w' h' => (mix_both hs r false f _ a' w' hB.1.2 h').1 rfl) h.1.2
    have hS := (mix_both hs s true (f + 1) listed a w hB.2 h.2).2 rfl
    have hall : ∀ j ∈ i :: s.heads, lOp P ops j (wpAnyX P ops C Q f (listed.setIfInBounds j true)) a w := fun j hj => by
      rcases List.mem_cons.1 hj with rfl | hj
      · exact hi
      · obtain ⟨f', e, h'⟩ := hS j hj
        cases e; exact h'
    refine ⟨fun hb => ⟨h.1.1, fun h0 => ?_, fun j hj => ?_⟩, fun _ j hj => ⟨f, rfl, hall j hj⟩⟩
    · have := hB.1.1.2
      rw [h0] at this; cases this
    · rcases hB.1.1.1 with e | e
      · rw [hb] at e; cases e
      · exact hall j (e j hj)
  | .none, b, _, _, _, _, hB, _ => ⟨fun hb => (by unfold orderB at hB; rw [hb] at hB; cases hB), fun _ j hj => (by simp [Ord.heads] at hj)⟩
  | .fin, _, _ + 1, _, _, _, hB, _ => by simp [orderB] at hB
  | .load .., _, 0, _, _, _, hB, _ => by simp [orderB] at hB
  | .alt .., _, 0, _, _, _, hB, _ => by simp [orderB] at hB
def mixB (ops : Array Oper) (q : Ord) : Bool := Region.noSelect ops && orderB ops q false ops.size (Array.replicate ops.size false)
theorem any_region_mix {Q : Exit → Act → World → Prop} {a : Act} {w : World} (q : Ord) (hB : mixB ops q = true)
    (h : wpMix P ops C (Q .normal) q a { w with drawn := w.drawn + 1 }) : wpAny P .any ops Q ops.size (Array.replicate ops.size false) a { w with drawn := w.drawn + 1 } := by
  simp only [mixB, Bool.and_eq_true] at hB
  exact wpAny_of_X (fun a w _ h => h) _ _ _ _ ((mix_both hB.1 q false _ _ a _ hB.2 h).1 rfl)
theorem wp_region_mix {id : Nat} {Q : Exit → Act → World → Prop} {a : Act} {w : World} (q : Ord) (hm : P.follows .mixedOrders = true) (hB : mixB ops q = true)
    (h : wpMix P ops C (Q .normal) q a { w with drawn := w.drawn + 1 }) : (Code.region id ops true).wp P Q a w :=
  wp_region_any hm (any_region_mix q hB h)
end

/-! ### The quick look at such an order: masks in place of lists -/
theorem mask_of : ∀ {q : List Nat} {k : Nat}, (maskOf q).testBit k = true → k ∈ q
  | [], k, h => by simp [maskOf] at h
  | u :: r, k, h => by
    simp only [maskOf, Nat.testBit_or, Bool.or_eq_true, Nat.one_shiftLeft] at h
    rcases h with h | h
    · rw [Nat.testBit_two_pow] at h
      simp at h; simp [h]
    · exact List.mem_cons_of_mem _ (mask_of h)
def blkOf (i : Nat) (x : Row) : Nat → List Row → Nat
  | _, [] => 0
  | j, y :: r => (bif Nat.beq j i || y.after.testBit i || (dstFree x y && seenFree x y) then 0 else 1 <<< j) ||| blkOf i x (j + 1) r
def qtab (rows : List Row) : Nat → List Row → List (Nat × Nat)
  | _, [] => []
  | i, x :: r => (x.after, blkOf i x 0 rows) :: qtab rows (i + 1) r
def subM (a m : Nat) : Bool := Nat.beq (Nat.land a m) a
def onlyM (m h : Nat) : Nat → List (Nat × Nat) → Bool
  | _, [] => true
  | j, x :: r => (m.testBit j || h.testBit j || !subM x.1 m) && onlyM m h (j + 1) r
def getM : List (Nat × Nat) → Nat → Option (Nat × Nat)
  | [], _ => Option.none
  | x :: _, 0 => some x
  | _ :: r, i + 1 => getM r i
def stepM (tab : List (Nat × Nat)) (i m : Nat) : Bool := match getM tab i with
  | Option.none => false
  | some x => !m.testBit i && subM x.1 m && subM x.2 m
def rdyM (tab : List (Nat × Nat)) (i m : Nat) : Bool := match getM tab i with
  | Option.none => false
  | some x => !m.testBit i && subM x.1 m
def orderQ (tab : List (Nat × Nat)) : Ord → Bool → Nat → Nat → Bool
  | .fin, _, 0, m => onlyM m 0 0 tab
  | .load i r, _, f + 1, m => stepM tab i m && orderQ tab r false f (m ||| (1 <<< i))
  | .alt i r s, b, f + 1, m => (b || onlyM m (maskOf (i :: s.heads)) 0 tab) && rdyM tab i m && orderQ tab r false f (m ||| (1 <<< i)) && orderQ tab s true (f + 1) m
  | .none, b, _, _ => b
  | _, _, _, _ => false
def mixQ (l : List Oper) (q : Ord) : Bool := selB l && orderQ (qtab (l.map (rowOf l.toArray)) 0 (l.map (rowOf l.toArray))) q false l.length 0

theorem getM_eq : ∀ (l : List (Nat × Nat)) (i : Nat), getM l i = l[i]?
  | [], i => by simp [getM]
  | x :: _, 0 => by simp [getM]
  | _ :: r, i + 1 => by simp [getM, getM_eq r i]
theorem qtab_get {rows : List Row} : ∀ {q : List Row} {b i : Nat}, (qtab rows b q)[i]? = (q[i]?).map fun x => (x.after, blkOf (b + i) x 0 rows)
  | [], b, i => by simp [qtab]
  | x :: r, b, 0 => by simp [qtab]
  | x :: r, b, i + 1 => by
    simp only [qtab, List.getElem?_cons_succ]
    rw [qtab_get (q := r) (b := b + 1) (i := i), show b + 1 + i = b + (i + 1) from by omega]
theorem blkOf_get {i : Nat} {x : Row} : ∀ {q : List Row} {b j : Nat} {y : Row}, q[j]? = some y → (blkOf i x b q).testBit (b + j) = false → (b + j = i ∨ y.after.testBit i = true) ∨ (dstFree x y && seenFree x y) = true
  | [], b, j, y, h, _ => by simp at h
  | z :: r, b, 0, y, h, hb => by
    simp at h; subst h
    simp only [blkOf, Nat.testBit_or, Bool.or_eq_false_iff, Nat.add_zero] at hb
    cases hc : (Nat.beq b i || z.after.testBit i || (dstFree x z && seenFree x z)) with
    | false => 
      rw [hc] at hb
      have := hb.1
      simp [Nat.one_shiftLeft] at this
    | true =>
      simp only [Bool.or_eq_true] at hc
      rcases hc with (hc | hc) | hc
      · exact .inl (.inl (Nat.eq_of_beq_eq_true hc))
      · exact .inl (.inr hc)
      · exact .inr hc
  | z :: r, b, j + 1, y, h, hb => by
    simp only [blkOf, Nat.testBit_or, Bool.or_eq_false_iff] at hb
    have := blkOf_get (i := i) (x := x) (q := r) (b := b + 1) (j := j) (y := y) (by simpa using h) (by rw [show b + 1 + j = b + (j + 1) from by omega]; exact hb.2)
    rwa [show b + 1 + j = b + (j + 1) from by omega] at this
theorem subM_spec {a m : Nat} : subM a m = true ↔ ∀ t, a.testBit t = true → m.testBit t = true := by
  unfold subM
  constructor
  · intro h t ht
    have := Nat.eq_of_beq_eq_true h
    have h2 : (a &&& m).testBit t = true := by show (Nat.land a m).testBit t = true; rw [this]; exact ht
    rw [Nat.testBit_and, Bool.and_eq_true] at h2
    exact h2.2
  · intro h
    have : Nat.land a m = a := by
      apply Nat.eq_of_testBit_eq
      intro t
      show (a &&& m).testBit t = _
      rw [Nat.testBit_and]
      cases hb : a.testBit t with
      | false => rfl
      | true => simp [h t hb]
    rw [this]; exact Nat.beq_refl a
/-- The mask says which have come up. -/
def Rep (n m : Nat) (listed : Array Bool) : Prop := listed.size = n ∧ (∀ j, j < n → listed[j]? = some (m.testBit j)) ∧ ∀ j, m.testBit j = true → j < n
theorem Rep.zero (n : Nat) : Rep n 0 (Array.replicate n false) := ⟨by simp, fun j hj => by simp [hj], fun j hj => by simp at hj⟩
theorem Rep.getD {n m : Nat} {listed : Array Bool} (h : Rep n m listed) (b : Bool) {j : Nat} (hj : j < n) : listed.getD j b = m.testBit j := by
  rw [Array.getD_eq_getD_getElem?, h.2.1 j hj]; rfl
theorem Rep.set {n m i : Nat} {listed : Array Bool} (h : Rep n m listed) (hi : i < n) : Rep n (m ||| (1 <<< i)) (listed.setIfInBounds i true) := by
  refine ⟨by simpa using h.1, fun j hj => ?_, fun j hj => ?_⟩
  · by_cases hij : i = j
    · subst hij
      simp [h.1, hi, Nat.one_shiftLeft]
    · rw [Array.getElem?_setIfInBounds_ne hij, h.2.1 j hj, Nat.testBit_or, Nat.one_shiftLeft, Nat.testBit_two_pow]
      simp [hij]
  · rw [Nat.testBit_or, Bool.or_eq_true, Nat.one_shiftLeft, Nat.testBit_two_pow] at hj
    rcases hj with hj | hj
    · exact h.2.2 j hj
    · simp at hj; omega
section
variable {l : List Oper} {m i : Nat} {listed : Array Bool}
def edges (o : Oper) : List Nat := o.after.toList.filterMap fun e => if Region.binds .any e then some e.on else Option.none
theorem edges_mem {o : Oper} {t : Nat} : t ∈ edges o ↔ ∃ e, e ∈ o.after ∧ Region.binds .any e = true ∧ e.on = t := by
  unfold edges
  rw [List.mem_filterMap]
  constructor
  · rintro ⟨e, he, h⟩
    split at h
    · rename_i hb
      injection h with h
      exact ⟨e, by simpa using he, hb, h⟩
    · cases h
  · rintro ⟨e, he, hb, h⟩
    exact ⟨e, by simpa using he, by simp [hb, h]⟩
theorem tab_get {x : Nat × Nat} (h : getM (qtab (l.map (rowOf l.toArray)) 0 (l.map (rowOf l.toArray))) i = some x) : ∃ o, l[i]? = some o ∧ x = (maskOf (edges o), blkOf i (rowOf l.toArray o) 0 (l.map (rowOf l.toArray))) := by
  rw [getM_eq, qtab_get, List.getElem?_map] at h
  cases ho : l[i]? with
  | none => rw [ho] at h; cases h
  | some o =>
    rw [ho] at h
    simp only [Option.map_some, Option.some.injEq, Nat.zero_add] at h
    exact ⟨o, rfl, h.symm⟩
theorem rdyM_ok (hR : Rep l.length m listed) (h : rdyM (qtab (l.map (rowOf l.toArray)) 0 (l.map (rowOf l.toArray))) i m = true) :
    i < l.length ∧ (Region.ready .any l.toArray listed).contains i = true := by
  unfold rdyM at h
  split at h
  · cases h
  rename_i x hx
  obtain ⟨o, ho, rfl⟩ := tab_get hx
  simp only [Bool.and_eq_true, Bool.not_eq_true'] at h
  obtain ⟨h1, h2⟩ := h
  have hi : i < l.length := (List.getElem?_eq_some_iff.1 ho).1
  refine ⟨hi, ?_⟩
  rw [List.contains_iff_mem, mem_ready]
  refine ⟨by rw [hR.getD true hi]; exact h1, o, by simpa using ho, fun e he hb => ?_⟩
  have := subM_spec.1 h2 e.on (mask_mem (edges_mem.2 ⟨e, he, hb, rfl⟩))
  rw [hR.getD false (hR.2.2 _ this)]; exact this
theorem stepM_ok (hR : Rep l.length m listed) (h : stepM (qtab (l.map (rowOf l.toArray)) 0 (l.map (rowOf l.toArray))) i m = true) :
    i < l.length ∧ (Region.ready .any l.toArray listed).contains i = true ∧ Region.free .any l.toArray listed i = true := by
  unfold stepM at h
  split at h
  · cases h
  rename_i x hx
  obtain ⟨o, ho, rfl⟩ := tab_get hx
  simp only [Bool.and_eq_true, Bool.not_eq_true'] at h
  obtain ⟨⟨h1, h2⟩, h3⟩ := h
  have hi : i < l.length := (List.getElem?_eq_some_iff.1 ho).1
  refine ⟨hi, (rdyM_ok hR (by unfold rdyM; simp [hx, h1, h2])).2, ?_⟩
  · unfold Region.free
    have : l.toArray[i]? = some o := by simpa using ho
    rw [this]
    simp only [List.all_eq_true, List.mem_range]
    intro j hj
    have hj' : j < l.length := by simpa using hj
    have hoj : l.toArray[j]? = some l[j] := by simp [hj']
    rw [hoj, hR.getD true hj']
    simp only [Bool.or_eq_true, beq_iff_eq]
    cases hm : m.testBit j with
    | true => exact .inl (.inr rfl)
    | false =>
      have hb : (blkOf i (rowOf l.toArray o) 0 (l.map (rowOf l.toArray))).testBit (0 + j) = false := by
        rw [Nat.zero_add]
        cases hq : (blkOf i (rowOf l.toArray o) 0 (l.map (rowOf l.toArray))).testBit j with
        | false => rfl
        | true => rw [subM_spec.1 h3 j hq] at hm; cases hm
      rcases blkOf_get (y := rowOf l.toArray l[j]) (by simp [hj']) hb with (h | h) | h
      · exact .inl (.inl (by omega))
      · refine .inr (.inl ?_)
        obtain ⟨e, he, hb, h⟩ := edges_mem.1 (mask_of (q := edges l[j]) h)
        rw [Array.any_eq_true']
        exact ⟨e, he, by simp [hb, h]⟩
      · exact .inr (.inr (apart_of_pair h))
theorem onlyM_get {h : Nat} : ∀ {q : List (Nat × Nat)} {b j : Nat} {x : Nat × Nat}, onlyM m h b q = true → q[j]? = some x → m.testBit (b + j) = true ∨ h.testBit (b + j) = true ∨ subM x.1 m = false
  | [], b, j, x, _, hx => by simp at hx
  | y :: r, b, 0, x, hq, hx => by
    simp at hx; subst hx
    simp only [onlyM, Bool.and_eq_true, Bool.or_eq_true, Bool.not_eq_true'] at hq
    rcases hq.1 with (h | h) | h
    · exact .inl h
    · exact .inr (.inl h)
    · exact .inr (.inr h)
  | y :: r, b, j + 1, x, hq, hx => by
    simp only [onlyM, Bool.and_eq_true] at hq
    have := onlyM_get hq.2 (j := j) (x := x) (by simpa using hx)
    rwa [show b + 1 + j = b + (j + 1) from by omega] at this
theorem onlyM_ok {h : List Nat} (hR : Rep l.length m listed) (hq : onlyM m (maskOf h) 0 (qtab (l.map (rowOf l.toArray)) 0 (l.map (rowOf l.toArray))) = true) : ∀ j ∈ Region.ready .any l.toArray listed, j ∈ h := by
  intro j hj
  obtain ⟨h1, o, ho, h2⟩ := mem_ready.1 hj
  have ho' : l[j]? = some o := by simpa using ho
  have hlt : j < l.length := (List.getElem?_eq_some_iff.1 ho').1
  rw [hR.getD true hlt] at h1
  have hx : (qtab (l.map (rowOf l.toArray)) 0 (l.map (rowOf l.toArray)))[j]? = some (maskOf (edges o), blkOf (0 + j) (rowOf l.toArray o) 0 (l.map (rowOf l.toArray))) := by
    rw [qtab_get, List.getElem?_map, ho']; rfl
  rcases onlyM_get hq hx with h | h | h
  · rw [Nat.zero_add, h1] at h; cases h
  · rw [Nat.zero_add] at h; exact mask_of h
  · have : subM (maskOf (edges o)) m = true := subM_spec.2 fun t ht => by
      obtain ⟨e, he, hb, rfl⟩ := edges_mem.1 (mask_of ht)
      have := h2 e he hb
      rcases Nat.lt_or_ge e.on l.length with h' | h'
      · rwa [hR.getD false h'] at this
      · rw [Array.getD_eq_getD_getElem?, Array.getElem?_eq_none (by rw [hR.1]; exact h')] at this; cases this
    simp only at h
    rw [this] at h; cases h
theorem orderQ_ok : ∀ (q : Ord) (b : Bool) (f m : Nat) (listed : Array Bool), Rep l.length m listed → orderQ (qtab (l.map (rowOf l.toArray)) 0 (l.map (rowOf l.toArray))) q b f m = true → orderB l.toArray q b f listed = true
  | .fin, b, 0, m, listed, hR, h => by
    simp only [orderQ] at h
    simp only [orderB, List.isEmpty_iff]
    exact List.eq_nil_iff_forall_not_mem.2 fun j hj => by
      have := onlyM_ok (h := []) hR (by simpa [maskOf] using h) j hj
      cases this
  | .load i r, b, f + 1, m, listed, hR, h => by
    simp only [orderQ, Bool.and_eq_true] at h
    obtain ⟨h1, h2, h3⟩ := stepM_ok hR h.1
    simp only [orderB, Bool.and_eq_true]
    exact ⟨⟨h2, h3⟩, orderQ_ok r false f _ _ (hR.set h1) h.2⟩
  | .alt i r s, b, f + 1, m, listed, hR, h => by
    simp only [orderQ, Bool.and_eq_true, Bool.or_eq_true] at h
    simp only [orderB, Bool.and_eq_true, Bool.or_eq_true]
    obtain ⟨hi, h1⟩ := rdyM_ok hR h.1.1.2
    refine ⟨⟨⟨?_, h1⟩, orderQ_ok r false f _ _ (hR.set hi) h.1.2⟩, orderQ_ok s true (f + 1) m listed hR h.2⟩
    rcases h.1.1.1 with h | h
    · exact .inl h
    · right
      simp only [List.all_eq_true, List.contains_iff_mem]
      exact onlyM_ok hR h
  | .none, b, f, m, listed, hR, h => by
    unfold orderQ at h
    unfold orderB
    exact h
  | .fin, _, _ + 1, _, _, _, h => by simp [orderQ] at h
  | .load .., _, 0, _, _, _, h => by simp [orderQ] at h
  | .alt .., _, 0, _, _, _, h => by simp [orderQ] at h
end
theorem mixB_of {l : List Oper} {q : Ord} (h : mixQ l q = true) : mixB l.toArray q = true := by
  simp only [mixQ, Bool.and_eq_true] at h
  simp only [mixB, Bool.and_eq_true]
  exact ⟨selB_ok h.1, orderQ_ok q false _ 0 _ (by simpa using Rep.zero l.length) (by simpa using h.2)⟩

/-! ### Facts in every world of a class -/
section
variable {C : World → Prop} {g : Nat} {t : TypeId} {cs : List Value}
theorem Blk.at_c (h : ∀ w', C w' → Blk w' g t cs) {i : Nat} {v : Value} (hv : cs[i]? = some v) : ∀ w', C w' → w'.cell? ⟨g, i, none⟩ = some v := fun w' hw => (h w' hw).cell hv
theorem Blk.row_c (h : ∀ w', C w' → Blk w' g t cs) : ∀ w', C w' → ∀ j u, cs[j]? = some u → w'.cell? ((⟨g, 0, none⟩ : Addr).add j) = some u := fun w' hw => (h w' hw).row_eq _ rfl
theorem Blk.part_c (h : ∀ w', C w' → Blk w' g t cs) {off : Nat} {sub : List Value} (hs : (cs.drop off).take sub.length = sub) : ∀ w', C w' → ∀ j u, sub[j]? = some u → w'.cell? ((⟨g, off, none⟩ : Addr).add j) = some u := fun w' hw => (h w' hw).part_eq hs _ rfl
variable {α : Type} [Inhabited α] {A : Option Addr} {n cap : Nat} {f : α → List Value} {sz : Nat} {l : List α}
theorem Ls.at_c (h : ∀ w', C w' → Ls w' A n cap f sz l) {k : Nat} (hk : k < n) {j : Nat} {u : Value} (hu : (f l[k]!)[j]? = .some u) : ∀ w', C w' → w'.cell? (elemAt A sz k j) = .some u := fun w' hw => (h w' hw).at_eq hk hu _ rfl
theorem Ls.part_c (h : ∀ w', C w' → Ls w' A n cap f sz l) {k : Nat} (hk : k < n) {off : Nat} {sub : List Value} (hs : ((f l[k]!).drop off).take sub.length = sub) : ∀ w', C w' → ∀ j u, sub[j]? = .some u → w'.cell? ((elemAt A sz k off).add j) = .some u := fun w' hw => (h w' hw).part_eq hk hs _ rfl
theorem not_mem1 {a b : Nat} (h : a ≠ b) : a ∉ [b] := by simpa using h
theorem all1 {a b : Nat} (h : a ≤ b) : ∀ c ∈ [b], a ≤ c := by simpa using h
theorem Keep.only1 {a w w' : World} {b : Nat} (h : Keep [b] a w) (x : Only b w w') : Keep [b] a w' := h.only x (.inl (by simp))
end

/-! ### The same over the frame as a list -/
section
variable {P : Program} {n : Nat} {ops : Array Oper} {C : World → Prop} {Q : Act → World → Prop} {E : Env} {w : World} {o : Oper} {i d : Nat} {v : Value} {r s : Ord}
def WX (P : Program) (n : Nat) (ops : Array Oper) (C : World → Prop) (Q : Act → World → Prop) (r : Ord) (E : Env) (w : World) : Prop := ∀ a, Ok n E a → wpMix P ops C Q r a w
theorem WX.nil (hC : C w) (h : WK n Q E w) : WX P n ops C Q .fin E w := fun a ha => ⟨hC, h a ha⟩
theorem WX.yld (hi : ops[i]? = some o) (hd : o.dst = some d) (hn : d < n) (hg : o.guard = none) (hy : Yld P o n E C v) (h : WX P n ops C Q r ((d, v) :: E) w) : WX P n ops C Q (.load i r) E w :=
  fun a ha => ⟨o, v, hi, .inl ⟨wanted_plain hg _, fun w' hw' => hy a w' ha hw'⟩, by rw [hd]; exact h _ (ha.put hn v)⟩
theorem WX.yldW {j t : Nat} {want : Bool} (hi : ops[i]? = some o) (hd : o.dst = some d) (hn : d < n) (hg : o.guard = some (j, want)) (hj : (ops[j]?).bind (·.dst) = some t) (ht : look t E = some (.bool want)) (hy : Yld P o n E C v) (h : WX P n ops C Q r ((d, v) :: E) w) : WX P n ops C Q (.load i r) E w :=
  fun a ha => ⟨o, v, hi, .inl ⟨by rw [wanted_guard ha hg hj ht]; simp, fun w' hw' => hy a w' ha hw'⟩, by rw [hd]; exact h _ (ha.put hn v)⟩
theorem WX.skip {j t : Nat} {want b : Bool} (hi : ops[i]? = some o) (hd : o.dst = some d) (hn : d < n) (hg : o.guard = some (j, want)) (hj : (ops[j]?).bind (·.dst) = some t) (ht : look t E = some (.bool b)) (hb : (b == want) = false) (h : WX P n ops C Q r ((d, undef) :: E) w) : WX P n ops C Q (.load i r) E w :=
  fun a ha => ⟨o, undef, hi, .inr ⟨by rw [wanted_guard ha hg hj ht, hb], rfl⟩, by rw [hd]; exact h _ (ha.put hn _)⟩
theorem WX.yldG {j t : Nat} {want b : Bool} (hi : ops[i]? = some o) (hd : o.dst = some d) (hn : d < n) (hg : o.guard = some (j, want)) (hj : (ops[j]?).bind (·.dst) = some t) (ht : look t E = some (.bool b)) (hy : b = want → Yld P o n E C v) (h : WX P n ops C Q r ((d, gv b want v) :: E) w) : WX P n ops C Q (.load i r) E w := by
  intro a ha
  have hh := h _ (ha.put hn (gv b want v))
  refine ⟨o, gv b want v, hi, ?_, by rw [hd]; exact hh⟩
  by_cases hb : b = want
  · left
    rw [gv_yes hb]
    exact ⟨by rw [wanted_guard ha hg hj ht, hb]; simp, fun w' hw' => hy hb a w' ha hw'⟩
  · right
    have hb' : (b == want) = false := by simp [hb]
    exact ⟨by rw [wanted_guard ha hg hj ht, hb'], by simp [gv, hb']⟩
theorem WX.yldGs {j t : Nat} {y w1 : Bool} (cs : List (Bool × Bool)) (hi : ops[i]? = some o) (hd : o.dst = some d) (hn : d < n) (hg : o.guard = some (j, w1)) (hj : (ops[j]?).bind (·.dst) = some t) (ht : look t E = some (gvs cs (.bool y))) (hy : AllEq (cs ++ [(y, w1)]) → Yld P o n E C v) (h : WX P n ops C Q r ((d, gvs (cs ++ [(y, w1)]) v) :: E) w) : WX P n ops C Q (.load i r) E w := by
  intro a ha
  have hh := h _ (ha.put hn (gvs (cs ++ [(y, w1)]) v))
  refine ⟨o, _, hi, ?_, by rw [hd]; exact hh⟩
  cases hc : allB (cs ++ [(y, w1)]) with
  | true =>
    left
    rw [gvs_yes hc]
    exact ⟨by rw [wanted_guards ha hg hj ht, hc], fun w' hw' => hy (allB_yes hc) a w' ha hw'⟩
  | false => exact .inr ⟨by rw [wanted_guards ha hg hj ht, hc], gvs_no hc _⟩
theorem WX.alt (h : WX P n ops C Q (.alt i r .none) E w) (hs : WX P n ops C Q s E w) : WX P n ops C Q (.alt i r s) E w := fun a ha => ⟨(h a ha).1, hs a ha⟩
/-- A call: the callee's contract. -/
theorem WX.call {c : Call} {f : FuncId} {args : List Value} {R : Ending → World → Prop} (hi : ops[i]? = some o) (hd : o.dst = some d) (hn : d < n) (hg : o.guard = none) (ho : o.op = .call c) (hc : c.callee = .value (.func f)) (hf : Has P f) (ha : evs E c.args.toList = some args) (hC : C w)
    (hk : Calls P f args.toArray w R) (h : ∀ e w', R e w' → ∃ v, e = .returned v ∧ WX P n ops C Q r ((d, v) :: E) w') : WX P n ops C Q (.alt i r .none) E w := by
  intro a hA
  refine ⟨⟨hC, ?_⟩, trivial⟩
  unfold lOp
  simp only [hi]
  rw [if_pos (wanted_plain hg _)]
  have hr := run_call (P := P) (w := w) (fst := #[]) (cap := #[]) hA ho hc rfl hf ha
  rw [hr]
  simp only [loudUpon]
  refine (show Calls P f (#[] ++ args.toArray ++ #[]) w R from by simpa using hk).mono fun e w' hR => ?_
  obtain ⟨v, he, hv⟩ := h e w' hR
  exact ⟨v, he, by rw [hd]; exact hv _ (hA.put hn v)⟩
/-- An operation of the chain that only yields. -/
theorem WX.yldL (hi : ops[i]? = some o) (hd : o.dst = some d) (hn : d < n) (hg : o.guard = none) (hC : C w) (hy : Yld P o n E (· = w) v) (h : WX P n ops C Q r ((d, v) :: E) w) : WX P n ops C Q (.alt i r .none) E w := by
  intro a ha
  refine ⟨⟨hC, ?_⟩, trivial⟩
  unfold lOp
  simp only [hi]
  rw [if_pos (wanted_plain hg _), hy a w ha rfl]
  simp only [loudUpon]
  rw [hd]; exact h _ (ha.put hn v)
theorem WX.mapUpdate {t kt e g : Nat} {x y z : Operand} {k : Int} {u : Value} {m : List (Int × Value)} (hi : ops[i]? = some o) (hd : o.dst = none) (hg : o.guard = none) (ho : o.op = .mapUpdate t x y z ∨ o.op = .insert t x y z) (hU : P.underlying t = some (.map kt e)) (hk : P.underlying kt = some (.int .i64)) (hx : ev E x = some (.map (some g))) (hy : ev E y = some (.int .i64 k)) (hz : ev E z = some u) (hm : Mp w g m) (hC : C w)
    (h : ∀ w', Only g w w' → Mp w' g (mset m k u) → WX P n ops C Q r E w') : WX P n ops C Q (.alt i r .none) E w := by
  intro a ha
  refine ⟨⟨hC, ?_⟩, trivial⟩
  obtain ⟨w', hr, h1, h2⟩ := run_mapUpdate_m (i := k) (u := u) hU hk hm
  have hr : (execOp a.eval o).run P w = .ok .skip w' := by
    rcases ho with ho | ho <;> simp [execOp, ho, ha.ev hx, ha.ev hy, ha.ev hz, hr]
  unfold lOp
  simp only [hi]
  rw [if_pos (wanted_plain hg _), hr]
  simp only [loudUpon]
  rw [hd]; exact h w' h1 h2 _ ha
/-- An operation that yields one value, whatever the world that it leaves. -/
def RunV (P : Program) (n : Nat) (o : Oper) (E : Env) (w : World) (R : Value → World → Prop) : Prop := ∀ a, Ok n E a → ∃ v w', (execOp a.eval o).run P w = .ok (.value v) w' ∧ R v w'
theorem WX.run {R : Value → World → Prop} (hi : ops[i]? = some o) (hd : o.dst = some d) (hn : d < n) (hg : o.guard = none) (hC : C w) (hr : RunV P n o E w R) (h : ∀ v w', R v w' → WX P n ops C Q r ((d, v) :: E) w') : WX P n ops C Q (.alt i r .none) E w := by
  intro a ha
  refine ⟨⟨hC, ?_⟩, trivial⟩
  obtain ⟨v, w', hr, hR⟩ := hr a ha
  unfold lOp
  simp only [hi]
  rw [if_pos (wanted_plain hg _), hr]
  simp only [loudUpon]
  rw [hd]; exact h v w' hR _ (ha.put hn v)
theorem Run.bslice {t e len : Nat} {parts : Array (Nat × Operand)} {ps : List (Nat × Value)} {z : Value} {zs cs : List Value} {sz by' : Nat} (ho : o.op = .buildSlice t len parts) (hU : P.underlying t = some (.slice e)) (hT : TI P e z sz by') (hp : (len * sz != 0) = true) (hs : len * sz ≤ 16777216)
    (hz : ((Array.range (len * sz)).map (z.cells[· % z.cells.size]!)) = zs.toArray) (hps : evp E parts.toList = some ps) (hf : fillP (fun i => some (i * sz, sz)) zs ps = some cs) :
    RunV P n o E w fun v w' => ∃ g, v = .slice (some ⟨g, 0, none⟩) len len ∧ g = w.heap.size ∧ Ext w w' ∧ Blk w' g e cs := by
  intro a ha
  have h0 : ¬ len * sz = 0 := by simpa using hp
  have h1 : ¬ len * sz > 2 ^ 24 := by omega
  have h3 : (parts.map fun x => (x.fst, a.eval x.snd)) = ps.toArray := by rw [← ha.evp hps, ← List.map_toArray]
  have hfill := fill_eq _ ps zs cs hf
  refine ⟨_, w.alloc (.cells cs.toArray e), ?_, w.heap.size, rfl, rfl, (Ext.refl w).alloc _, Blk.new w e cs⟩
  simp only [execOp, ho, Instr.buildSlice, Sem.run_bind, run_underlying hU, Result.andThen_ok, hT.sizeOf, h1, h0, if_false, hT.zeroValue, Sem.run_pure, hz, h3, newRow, run_newObj]
  rw [hfill]
  rfl
theorem Run.bslice0 {t e : Nat} {z : Value} {sz by' : Nat} (ho : o.op = .buildSlice t 0 #[]) (hU : P.underlying t = some (.slice e)) (hT : TI P e z sz by') :
    RunV P n o E w fun v w' => ∃ g, v = .slice (some ⟨g, 0, none⟩) 0 0 ∧ g = w.heap.size ∧ Ext w w' ∧ Blk w' g e [] := by
  intro a ha
  refine ⟨_, w.alloc (.cells #[] e), ?_, w.heap.size, rfl, rfl, (Ext.refl w).alloc _, Blk.new w e []⟩
  have h0 : (Array.map (fun _ : Nat => (default : Value)) (Array.range 0)) = #[] := by
    apply Array.eq_empty_of_size_eq_zero; simp
  simp [execOp, ho, Instr.buildSlice, run_underlying hU, hT.sizeOf, newRow, Instr.fill, h0]
section app
variable {α : Type} {f : α → List Value} {sz base e t : Nat} {l : List α} {c : Call}
theorem Run.appendB {news : List α} {g cap : Nat} {cs : List Value} {z : Value} {by' : Nat} (ho : o.op = .call c) (hc : c.callee = .builtin .append) (ht : c.argTypes = #[t, t]) (hU : P.underlying t = some (.slice e)) (hT : TI P e z sz by') (hz : z.cells.size = sz) (hp : 0 < sz)
    (ha : evs E c.args.toList = some [v, .slice (some ⟨g, 0, none⟩) news.length cap]) (own : OwnL w base e f sz v l) (hf : ∀ x, (f x).length = sz) (h1 : ∀ x, ∀ u ∈ f x, u.oneCell' = true) (hb : Blk w g e cs) (hcs : news.flatMap f = cs) (hbase : base ≤ w.heap.size) (hby : (l.length + news.length) * by' ≤ 140737488355328) (hm : l.length + news.length ≤ maxLen) :
    RunV P n o E w fun v' w' => OwnL w' base e f sz v' (l ++ news) ∧ Gr w w' v.ownBlock ∧ (v'.ownBlock = v.ownBlock ∨ v'.ownBlock = some w.heap.size) := by
  intro a hA
  obtain ⟨cb, hcb⟩ := run_builtin (P := P) (w := w) hA ho hc ha
  subst hcs
  obtain ⟨v', w', hr, h2, h3, h4⟩ := wp_append (P := P) (news := news) (ad := ⟨g, 0, none⟩) (cap := cap) hc ht hU hT hz hp own hf h1 (fun j u hu => by rw [add_blk, Nat.zero_add]; exact hb.cell hu) hbase hby hm o.type cb
  exact ⟨v', w', hcb.trans hr, h2, h3, h4⟩
theorem Run.appendL {news : List α} {A : Option Addr} {cap k : Nat} {z : Value} {by' : Nat} (ho : o.op = .call c) (hc : c.callee = .builtin .append) (ht : c.argTypes = #[t, t]) (hU : P.underlying t = some (.slice e)) (hT : TI P e z sz by') (hz : z.cells.size = sz) (hp : 0 < sz)
    (ha : evs E c.args.toList = some [v, .slice A k cap]) (own : OwnL w base e f sz v l) (hf : ∀ x, (f x).length = sz) (h1 : ∀ x, ∀ u ∈ f x, u.oneCell' = true) (hL : Ls w A k cap f sz news) (hbase : base ≤ w.heap.size) (hby : (l.length + news.length) * by' ≤ 140737488355328) (hm : l.length + news.length ≤ maxLen) :
    RunV P n o E w fun v' w' => OwnL w' base e f sz v' (l ++ news) ∧ Gr w w' v.ownBlock ∧ (v'.ownBlock = v.ownBlock ∨ v'.ownBlock = some w.heap.size) := by
  intro a hA
  have hk := hL.len
  subst hk
  have hb := hL.rd
  obtain ⟨cb, hcb⟩ := run_builtin (P := P) (w := w) hA ho hc ha
  have hcases : (∃ ad, A = some ad ∧ ∀ j u, (news.flatMap f)[j]? = some u → w.cell? (ad.add j) = some u) ∨ (A = none ∧ news = []) := by
    cases A with
    | none =>
      right
      refine ⟨rfl, ?_⟩
      cases news with
      | nil => rfl
      | cons x r => obtain ⟨ad, he, _⟩ := hb 0 x rfl; cases he
    | some ad =>
      left
      refine ⟨ad, rfl, fun j u hu => ?_⟩
      have key : ∀ (q : List α) (i0 : Nat), (∀ i x, q[i]? = some x → ∀ j u, (f x)[j]? = some u → w.cell? (ad.add ((i0 + i) * sz + j)) = some u) → ∀ j u, (q.flatMap f)[j]? = some u → w.cell? (ad.add (i0 * sz + j)) = some u := by
        intro q
        induction q with
        | nil => intro i0 _ j u hu; simp at hu
        | cons x r ih =>
          intro i0 hq j u hu
          rw [List.flatMap_cons] at hu
          by_cases hj : j < sz
          · rw [List.getElem?_append_left (by rw [hf]; exact hj)] at hu
            have := hq 0 x rfl j u hu
            simpa using this
          · rw [List.getElem?_append_right (by rw [hf]; omega), hf] at hu
            have := ih (i0 + 1) (fun i y hy j u hu => by
              have := hq (i + 1) y (by simpa using hy) j u hu
              rwa [show i0 + (i + 1) = i0 + 1 + i from by omega] at this) (j - sz) u hu
            rwa [show (i0 + 1) * sz + (j - sz) = i0 * sz + j from by rw [Nat.succ_mul]; omega] at this
      have := key news 0 (fun i x hx j u hu => by
        obtain ⟨ad', he, _, _, hc'⟩ := hb i x hx
        injection he with he; subst he
        rw [Nat.zero_add]; exact hc' j u hu) j u hu
      simpa using this
  rcases hcases with ⟨ad, rfl, hcells⟩ | ⟨rfl, rfl⟩
  · obtain ⟨v', w', hr, h2, h3, h4⟩ := wp_append (P := P) (news := news) (ad := ad) (cap := cap) hc ht hU hT hz hp own hf h1 hcells hbase hby hm o.type cb
    exact ⟨v', w', hcb.trans hr, h2, h3, h4⟩
  · refine ⟨v, w, hcb.trans ?_, by simpa using own, Gr.refl w _, .inl rfl⟩
    obtain ⟨i, hi, hi1, hi2, hi3⟩ := hT
    have : (Builtin.append_ #[t, t] o.type #[v, .slice none 0 cap]).run P w = .ok v w := by
      rcases own.2 with ⟨rfl, _⟩ | ⟨g, cap', cur, rfl, _, _, hnc, _⟩
      · simp [Builtin.append_, run_underlying hU, sizeOf, typeInfo, hi, Builtin.lenOf, Builtin.firstCells]
      · simp [Builtin.append_, run_underlying hU, sizeOf, typeInfo, hi, Builtin.lenOf, Builtin.firstCells, hnc, storeCells]
    show (builtin .append c.argTypes o.type cb #[v, .slice none 0 cap]).run P w = _
    simp only [builtin, ht, Sem.run_bind, this, Result.andThen_ok, Sem.run_pure]
end app
/-- An operation of the chain whose guard is known to let it come: as if it had none. -/
theorem WX.runW {R : Value → World → Prop} {j t : Nat} {want : Bool} (hi : ops[i]? = some o) (hd : o.dst = some d) (hn : d < n) (hg : o.guard = some (j, want)) (hj : (ops[j]?).bind (·.dst) = some t) (ht : look t E = some (.bool want)) (hC : C w) (hr : RunV P n o E w R) (h : ∀ v w', R v w' → WX P n ops C Q r ((d, v) :: E) w') : WX P n ops C Q (.alt i r .none) E w := by
  intro a ha
  refine ⟨⟨hC, ?_⟩, trivial⟩
  obtain ⟨v, w', hr, hR⟩ := hr a ha
  unfold lOp
  simp only [hi]
  rw [if_pos (by rw [wanted_guard ha hg hj ht]; simp), hr]
  simp only [loudUpon]
  rw [hd]; exact h v w' hR _ (ha.put hn v)
theorem WX.callW {c : Call} {f : FuncId} {args : List Value} {R : Ending → World → Prop} {j t : Nat} {want : Bool} (hi : ops[i]? = some o) (hd : o.dst = some d) (hn : d < n) (hg : o.guard = some (j, want)) (hj : (ops[j]?).bind (·.dst) = some t) (ht : look t E = some (.bool want)) (ho : o.op = .call c) (hc : c.callee = .value (.func f)) (hf : Has P f) (ha : evs E c.args.toList = some args) (hC : C w)
    (hk : Calls P f args.toArray w R) (h : ∀ e w', R e w' → ∃ v, e = .returned v ∧ WX P n ops C Q r ((d, v) :: E) w') : WX P n ops C Q (.alt i r .none) E w := by
  intro a hA
  refine ⟨⟨hC, ?_⟩, trivial⟩
  unfold lOp
  simp only [hi]
  rw [if_pos (by rw [wanted_guard hA hg hj ht]; simp)]
  have hr := run_call (P := P) (w := w) (fst := #[]) (cap := #[]) hA ho hc rfl hf ha
  rw [hr]
  simp only [loudUpon]
  refine (show Calls P f (#[] ++ args.toArray ++ #[]) w R from by simpa using hk).mono fun e w' hR => ?_
  obtain ⟨v, he, hv⟩ := h e w' hR
  exact ⟨v, he, by rw [hd]; exact hv _ (hA.put hn v)⟩
/-- What a piece of code leaves, said once for all its ways. -/
theorem WC.cut {Q : Exit → Act → World → Prop} {c : Code} (Ek : Env) (F : World → Prop) (R : Env → World → Prop) (_hk : Sub Ek E) (_hF : F w) (h1 : WC P n c (fun e a w => e = .normal ∧ ∃ Eo, R Eo w ∧ F w ∧ Ok n (Eo ++ Ek) a) E w) (h2 : ∀ Eo w', R Eo w' → F w' → WK n (Q .normal) (Eo ++ Ek) w') : WC P n c Q E w := by
  intro a ha
  refine wp_mono (h1 a ha) fun e a w h => ?_
  obtain ⟨rfl, Eo, hR, hF, hok⟩ := h
  exact h2 Eo w hR hF a hok
theorem WK.cut {Ek : Env} {F : World → Prop} {R : Env → World → Prop} (Eo : Env) (hs : Sub (Eo ++ Ek) E) (hR : R Eo w) (hF : F w) : WK n (fun a w => Exit.normal = .normal ∧ ∃ Eo, R Eo w ∧ F w ∧ Ok n (Eo ++ Ek) a) E w := fun _ ha => ⟨rfl, Eo, hR, hF, ha.sub hs⟩
theorem WC.regionX {Q : Exit → Act → World → Prop} {id : Nat} {l : List Oper} (C : World → Prop) (seq : Ord) (_hC : C w) (hm : P.follows .mixedOrders = true) (hB : mixQ l seq = true)
    (h : ∀ w1, Ext w w1 → WX P n l.toArray C (Q .normal) seq E w1) : WC P n (.region id l.toArray true) Q E w :=
  fun a ha => wp_region_mix seq hm (mixB_of hB) (h _ ((Ext.refl w).drawn (Nat.le_succ _)) a ha)
end
end Go.Eng
