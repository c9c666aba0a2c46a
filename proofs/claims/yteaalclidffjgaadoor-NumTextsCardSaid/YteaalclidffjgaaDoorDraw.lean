/- Regions that draw their order: a quick look at the operations that shows that the order of the text serves every order;
   and regions whose last operations come in one forced order. Over any program. Conditions: none. -/
import Derived.Test.YteaalclidffjgaaDoorEng
import Derived.StillTail
namespace Go.Eng
open Go Go.RowKit

/-! ### A quick look -/
def maskOf : List Nat → Nat
  | [] => 0
  | t :: r => (1 <<< t) ||| maskOf r
theorem mask_mem : ∀ {l : List Nat} {t : Nat}, t ∈ l → (maskOf l).testBit t = true
  | u :: r, t, h => by
    simp only [maskOf, Nat.testBit_or, Bool.or_eq_true]
    rcases List.mem_cons.1 h with h | h
    · subst h; left; simp [Nat.one_shiftLeft]
    · exact .inr (mask_mem h)
structure Row where
  dst : Option Nat
  seen : Nat
  after : Nat
def rowOf (ops : Array Oper) (o : Oper) : Row := ⟨o.dst, maskOf (o.looksAt ops), maskOf (o.after.toList.filterMap fun e => if Region.binds .any e then some e.on else none)⟩
def dstFree (x y : Row) : Bool := match x.dst with
  | none => true
  | some d => !y.seen.testBit d && (match y.dst with | none => true | some d' => !Nat.beq d d')
def seenFree (x y : Row) : Bool := match y.dst with
  | none => true
  | some d => !x.seen.testBit d
def pairB (x : Row) (k : Nat) (y : Row) : Bool := y.after.testBit k || (dstFree x y && seenFree x y)
def pairsB (x : Row) (k : Nat) : List Row → Bool
  | [] => true
  | y :: r => pairB x k y && pairsB x k r
def chkB : Nat → List Row → Bool
  | _, [] => true
  | k, x :: r => Nat.blt x.after (1 <<< k) && pairsB x k r && chkB (k + 1) r
def selB : List Oper → Bool
  | [] => true
  | o :: r => (match o.op with | .select .. => false | _ => true) && selB r
def quickB (l : List Oper) : Bool := selB l && chkB 0 (l.map (rowOf l.toArray))

theorem pairsB_get {x : Row} {k : Nat} : ∀ {l : List Row} {i : Nat} {y : Row}, pairsB x k l = true → l[i]? = some y → pairB x k y = true
  | z :: r, 0, y, h, hy => by
    simp only [pairsB, Bool.and_eq_true] at h
    simp at hy; subst hy; exact h.1
  | z :: r, i + 1, y, h, hy => by
    simp only [pairsB, Bool.and_eq_true] at h
    exact pairsB_get h.2 (by simpa using hy)
theorem chkB_get : ∀ {l : List Row} {b k : Nat} {x : Row}, chkB b l = true → l[k]? = some x → Nat.blt x.after (1 <<< (b + k)) = true ∧ ∀ j y, k < j → l[j]? = some y → pairB x (b + k) y = true
  | z :: r, b, 0, x, h, hx => by
    simp only [chkB, Bool.and_eq_true] at h
    simp at hx; subst hx
    refine ⟨h.1.1, fun j y hj hy => ?_⟩
    obtain ⟨i, rfl⟩ : ∃ i, j = i + 1 := ⟨j - 1, by omega⟩
    exact pairsB_get h.1.2 (by simpa using hy)
  | z :: r, b, k + 1, x, h, hx => by
    simp only [chkB, Bool.and_eq_true] at h
    obtain ⟨h1, h2⟩ := chkB_get (b := b + 1) (k := k) h.2 (by simpa using hx)
    rw [show b + (k + 1) = b + 1 + k from by omega]
    refine ⟨h1, fun j y hj hy => ?_⟩
    obtain ⟨i, rfl⟩ : ∃ i, j = i + 1 := ⟨j - 1, by omega⟩
    exact h2 i y (by omega) (by simpa using hy)
theorem mask_lt {l : List Nat} {k t : Nat} (h : Nat.blt (maskOf l) (1 <<< k) = true) (ht : t ∈ l) : t < k := by
  have h1 := mask_mem ht
  have h2 : maskOf l < 2 ^ k := by have := blt h; rwa [Nat.one_shiftLeft] at this
  rcases Nat.lt_or_ge t k with h3 | h3
  · exact h3
  · have h4 : maskOf l < 2 ^ t := Nat.lt_of_lt_of_le h2 (Nat.pow_le_pow_right (by omega) h3)
    rw [Nat.testBit_lt_two_pow h4] at h1; cases h1
theorem apart_of_pair {ops : Array Oper} {oi oj : Oper} (h : (dstFree (rowOf ops oi) (rowOf ops oj) && seenFree (rowOf ops oi) (rowOf ops oj)) = true) : oi.apart ops oj = true := by
  simp only [Bool.and_eq_true] at h
  obtain ⟨h1, h2⟩ := h
  unfold Oper.apart
  simp only [Bool.and_eq_true]
  refine ⟨?_, ?_⟩
  · unfold dstFree rowOf at h1
    dsimp only at h1
    cases hd : oi.dst with
    | none => rfl
    | some d =>
      rw [hd] at h1
      simp only [Bool.and_eq_true, Bool.not_eq_true'] at h1
      simp only [Bool.and_eq_true, Bool.not_eq_true']
      refine ⟨?_, ?_⟩
      · rcases hb : (oj.looksAt ops).contains d with _ | _
        · rfl
        · have := mask_mem (List.contains_iff_mem.1 hb)
          rw [h1.1] at this; cases this
      · cases hd' : oj.dst with
        | none => rfl
        | some d' =>
          rw [hd'] at h1
          simp only [Bool.not_eq_true'] at h1
          have : d ≠ d' := by
            rintro rfl
            have := h1.2
            rw [Nat.beq_refl] at this; cases this
          simp [bne, Ne.symm this]
  · unfold seenFree rowOf at h2
    dsimp only at h2
    cases hd : oj.dst with
    | none => rfl
    | some d =>
      rw [hd] at h2
      simp only [Bool.not_eq_true'] at h2
      simp only [Bool.not_eq_true']
      rcases hb : (oi.looksAt ops).contains d with _ | _
      · rfl
      · have := mask_mem (List.contains_iff_mem.1 hb)
        rw [h2] at this; cases this

/-- The first k operations have come up, no other. -/
def First (n k : Nat) (listed : Array Bool) : Prop := listed.size = n ∧ ∀ j, j < n → listed[j]? = some (decide (j < k))
theorem First.set {n k : Nat} {listed : Array Bool} (h : First n k listed) : First n (k + 1) (listed.setIfInBounds k true) := by
  refine ⟨by simpa using h.1, fun j hj => ?_⟩
  by_cases hjk : k = j
  · subst hjk; simp [h.1, hj]
  · rw [Array.getElem?_setIfInBounds_ne hjk, h.2 j hj]
    congr 1
    by_cases h1 : j < k
    · simp [h1, Nat.lt_succ_of_lt h1]
    · have : ¬ j < k + 1 := by omega
      simp [h1, this]
theorem First.zero (n : Nat) : First n 0 (Array.replicate n false) := ⟨by simp, fun j hj => by simp [hj]⟩
theorem First.getD {n k : Nat} {listed : Array Bool} (h : First n k listed) (b : Bool) {j : Nat} (hj : j < n) : listed.getD j b = decide (j < k) := by
  rw [Array.getD_eq_getD_getElem?, h.2 j hj]; rfl
theorem selB_ok : ∀ {l : List Oper}, selB l = true → Region.noSelect l.toArray = true
  | [], _ => by simp [Region.noSelect]
  | o :: r, h => by
    simp only [selB, Bool.and_eq_true] at h
    have := selB_ok h.2
    unfold Region.noSelect at this ⊢
    simp only [List.all_toArray, List.all_cons, Bool.and_eq_true] at this ⊢
    exact ⟨h.1, this⟩
theorem lexFrom_of {l : List Oper} (hc : chkB 0 (l.map (rowOf l.toArray)) = true) : ∀ (f k : Nat) (listed : Array Bool), f + k = l.length → First l.length k listed → Region.lexFrom .any l.toArray f k listed = true
  | 0, k, listed, hf, hF => by
    simp only [Region.lexFrom, List.isEmpty_iff]
    apply List.eq_nil_iff_forall_not_mem.2
    intro j hj
    obtain ⟨h1, o, ho, _⟩ := mem_ready.1 hj
    have hlt : j < l.length := by simpa using (Array.getElem?_eq_some_iff.1 ho).1
    rw [hF.getD true hlt] at h1
    simp at h1; omega
  | f + 1, k, listed, hf, hF => by
    have hk : k < l.length := by omega
    have hok : l.toArray[k]? = some l[k] := by simp [hk]
    have hrow : (l.map (rowOf l.toArray))[k]? = some (rowOf l.toArray l[k]) := by simp [hk]
    obtain ⟨h1, h2⟩ := chkB_get hc hrow
    simp only [Nat.zero_add] at h1 h2
    simp only [Region.lexFrom, Bool.and_eq_true]
    refine ⟨⟨?_, ?_⟩, lexFrom_of hc f (k + 1) _ (by omega) hF.set⟩
    · rw [List.contains_iff_mem, mem_ready]
      refine ⟨by rw [hF.getD true hk]; simp, l[k], hok, fun e he hb => ?_⟩
      have hlt : e.on < k := mask_lt h1 (List.mem_filterMap.2 ⟨e, by simpa using he, by simp [hb]⟩)
      rw [hF.getD false (by omega)]
      simp [hlt]
    · unfold Region.free
      rw [hok]
      simp only [List.all_eq_true, List.mem_range]
      intro j hj
      have hj' : j < l.length := by simpa using hj
      have hoj : l.toArray[j]? = some l[j] := by simp [hj']
      rw [hoj, hF.getD true hj']
      simp only [Bool.or_eq_true, beq_iff_eq, decide_eq_true_eq]
      by_cases hjk : j = k
      · exact .inl (.inl hjk)
      by_cases hjl : j < k
      · exact .inl (.inr hjl)
      · right
        have hp := h2 j (rowOf l.toArray l[j]) (by omega) (by simp [hj'])
        unfold pairB at hp
        simp only [Bool.or_eq_true] at hp
        rcases hp with hp | hp
        · left
          have hp' : (maskOf (l[j].after.toList.filterMap fun e => if Region.binds .any e then some e.on else none)).testBit k = true := hp
          have mem_of : ∀ (q : List Nat), (maskOf q).testBit k = true → k ∈ q := by
            intro q
            induction q with
            | nil => intro h; simp [maskOf] at h
            | cons u r ih =>
              intro h
              simp only [maskOf, Nat.testBit_or, Bool.or_eq_true, Nat.one_shiftLeft] at h
              rcases h with h | h
              · rw [Nat.testBit_two_pow] at h
                simp at h; simp [h]
              · exact List.mem_cons_of_mem _ (ih h)
          obtain ⟨e, he, h3⟩ := List.mem_filterMap.1 (mem_of _ hp')
          rw [Array.any_eq_true']
          refine ⟨e, by simpa using he, ?_⟩
          split at h3
          · rename_i hb
            injection h3 with h3
            simp [hb, h3]
          · cases h3
        · right; exact apart_of_pair (by simpa using hp)
theorem lexB_of_quick {l : List Oper} (h : quickB l = true) : Region.lexB .any l.toArray = true := by
  simp only [quickB, Bool.and_eq_true] at h
  simp only [Region.lexB, Bool.and_eq_true]
  exact ⟨selB_ok h.1, lexFrom_of h.2 _ 0 _ (by simp) (by simpa using First.zero l.length)⟩

/-! ### A quiet head in whatever order, then a tail in one forced order -/
theorem ready_prefix {l : List Oper} {n : Nat} {listed listed1 : Array Bool} (hn : n ≤ l.length) (hs : listed1.size = n) (hl : ∀ i, i < n → listed1[i]? = listed[i]?) (hedge : ∀ i o, i < n → l[i]? = some o → ∀ e ∈ o.after, Region.binds .any e = true → e.on < n) {i : Nat} (hi : i < n) :
    i ∈ Region.ready .any l.toArray listed ↔ i ∈ Region.ready .any (l.take n).toArray listed1 := by
  have hg : ∀ j, j < n → ∀ b, listed.getD j b = listed1.getD j b := fun j hj b => by rw [Array.getD_eq_getD_getElem?, Array.getD_eq_getD_getElem?, hl j hj]
  have ho : l.toArray[i]? = (l.take n).toArray[i]? := by simp [List.getElem?_take, hi]
  rw [mem_ready, mem_ready, hg i hi, ho]
  constructor
  · rintro ⟨h1, o, h2, h3⟩
    refine ⟨h1, o, h2, fun e he hb => ?_⟩
    have hlo : l[i]? = some o := by rw [← ho] at h2; simpa using h2
    rw [← hg _ (hedge i o hi hlo e he hb)]; exact h3 e he hb
  · rintro ⟨h1, o, h2, h3⟩
    refine ⟨h1, o, h2, fun e he hb => ?_⟩
    have hlo : l[i]? = some o := by rw [← ho] at h2; simpa using h2
    rw [hg _ (hedge i o hi hlo e he hb)]; exact h3 e he hb
theorem wpAny_more {P : Program} {ops : Array Oper} {Q : Exit → Act → World → Prop} : ∀ (f : Nat) (listed : Array Bool) (a : Act) (w : World), wpAny P .any ops Q f listed a w → wpAny P .any ops Q (f + 1) listed a w
  | 0, listed, a, w, h => ⟨fun _ => h.2, fun i hi => by rw [h.1] at hi; cases hi⟩
  | f + 1, listed, a, w, h => ⟨h.1, fun i hi => wpOp_mono (fun a' w' h' => wpAny_more f _ a' w' h') (h.2 i hi)⟩
theorem wpAny_add {P : Program} {ops : Array Oper} {Q : Exit → Act → World → Prop} (g : Nat) : ∀ (k : Nat) (listed : Array Bool) (a : Act) (w : World), wpAny P .any ops Q g listed a w → wpAny P .any ops Q (k + g) listed a w
  | 0, _, _, _, h => by rw [Nat.zero_add]; exact h
  | k + 1, _, _, _, h => by rw [show k + 1 + g = k + g + 1 from by omega]; exact wpAny_more _ _ _ _ (wpAny_add g k _ _ _ h)
/-- No operation of the head is ready: all of it has come up. -/
theorem all_listed {l : List Oper} {n : Nat} {listed1 : Array Bool} (hs : listed1.size = n) (hn : n ≤ l.length) (hedge : ∀ i o, i < n → l[i]? = some o → ∀ e ∈ o.after, Region.binds .any e = true → e.on < i) (h : Region.ready .any (l.take n).toArray listed1 = []) : ∀ i, i < n → listed1[i]? = some true := by
  intro i
  induction i using Nat.strongRecOn with
  | _ i ih =>
    intro hi
    have hlt : i < listed1.size := by omega
    have hsome : listed1[i]? = some (listed1[i]) := Array.getElem?_eq_getElem hlt
    cases hb : listed1[i] with
    | true => rw [hsome, hb]
    | false =>
      exfalso
      have hil : i < l.length := by omega
      have : i ∈ Region.ready .any (l.take n).toArray listed1 := by
        rw [mem_ready]
        refine ⟨by rw [Array.getD_eq_getD_getElem?, hsome, hb]; rfl, l[i], by simp [List.getElem?_take, hi, hil], fun e he hbd => ?_⟩
        have h1 := hedge i l[i] hi (List.getElem?_eq_getElem hil) e he hbd
        rw [Array.getD_eq_getD_getElem?, ih e.on h1 (by omega)]; rfl
      rw [h] at this; cases this
theorem headQ {P : Program} {l : List Oper} {n g : Nat} {C : World → Prop} {Q1 : Act → Prop} {Q : Exit → Act → World → Prop} (hn : n < l.length) (hsink : Region.sinkB .any l.toArray n = true) (hchain : Region.chainB .any l.toArray n = true)
    (hedge : ∀ i o, i < n → l[i]? = some o → (∀ e ∈ o.after, Region.binds .any e = true → e.on < i) ∧ ∀ j want, o.guard = some (j, want) → j < n)
    (htail : ∀ (listed' : Array Bool) (a' : Act) (w' : World), HeadInv .any l.toArray n listed' → (∀ i, i < n → listed'[i]? = some true) → C w' → Q1 a' → wpAny P .any l.toArray Q g listed' a' w') :
    ∀ (f : Nat) (listed listed1 : Array Bool) (a : Act) (w : World), HeadInv .any l.toArray n listed → listed1.size = n → (∀ i, i < n → listed1[i]? = listed[i]?) → C w → wpAnyQ P .any (l.take n).toArray C Q1 f listed1 a → wpAny P .any l.toArray Q (f + g) listed a w
  | 0, listed, listed1, a, w, inv, hs, hl, hC, h => by
    rw [Nat.zero_add]
    have hall := all_listed hs (by omega) (fun i o hi ho => (hedge i o hi ho).1) h.1
    exact htail listed a w inv (fun i hi => by rw [← hl i hi]; exact hall i hi) hC h.2
  | f + 1, listed, listed1, a, w, inv, hs, hl, hC, h => by
    have hedge' : ∀ i o, i < n → l[i]? = some o → ∀ e ∈ o.after, Region.binds .any e = true → e.on < n := fun i o hi ho e he hb => Nat.lt_trans ((hedge i o hi ho).1 e he hb) hi
    by_cases hr : Region.ready .any (l.take n).toArray listed1 = []
    · have hall := all_listed hs (by omega) (fun i o hi ho => (hedge i o hi ho).1) hr
      have := htail listed a w inv (fun i hi => by rw [← hl i hi]; exact hall i hi) hC (h.1 hr)
      exact wpAny_add g (f + 1) _ _ _ this
    · obtain ⟨i0, hi0⟩ := List.exists_mem_of_ne_nil _ hr
      have hi0n : i0 < n := by
        obtain ⟨_, o, ho, _⟩ := mem_ready.1 hi0
        have := (Array.getElem?_eq_some_iff.1 ho).1
        simp at this; omega
      have hi0r := (ready_prefix (by omega) hs hl hedge' hi0n).2 hi0
      rw [show f + 1 + g = f + g + 1 from by omega]
      refine ⟨fun h0 => (by rw [h0] at hi0r; cases hi0r), fun i hi => ?_⟩
      have hin : i < n := by
        rcases Nat.lt_or_ge i n with h1 | h1
        · exact h1
        · exact absurd hi (tail_waits hsink hchain (by simpa using hn) inv _ i0 rfl hi0n (mem_ready.1 hi0r).1 i h1)
      have hi1 := (ready_prefix (by omega) hs hl hedge' hin).1 hi
      have hq := h.2 i hi1
      have hset : HeadInv .any l.toArray n (listed.setIfInBounds i true) := inv.set hi hin
      have hnext : ∀ a' w', C w' → wpAnyQ P .any (l.take n).toArray C Q1 f (listed1.setIfInBounds i true) a' → wpAny P .any l.toArray Q (f + g) (listed.setIfInBounds i true) a' w' := fun a' w' hC' h' =>
        headQ hn hsink hchain hedge htail f _ _ a' w' hset (by simpa using hs) (fun j hj => by
          by_cases hij : i = j
          · subst hij
            have h1 : i < listed.size := by rw [inv.size]; simp; omega
            simp [hs, hj, h1]
          · rw [Array.getElem?_setIfInBounds_ne hij, Array.getElem?_setIfInBounds_ne hij]; exact hl j hj) hC' h'
      -- the same operation in the head and in the whole
      have hil : i < l.length := by omega
      have ho : l.toArray[i]? = some l[i] := by simp [hil]
      have ho1 : (l.take n).toArray[i]? = some l[i] := by simp [List.getElem?_take, hin, hil]
      have hy : yielded l.toArray a.tmps = yielded l.toArray a.tmps := rfl
      have hw : Region.wanted l[i] (yielded (l.take n).toArray a.tmps) = Region.wanted l[i] (yielded l.toArray a.tmps) := by
        unfold Region.wanted
        cases hg : l[i].guard with
        | none => rfl
        | some p =>
          obtain ⟨j, want⟩ := p
          have hj := (hedge i l[i] hin (List.getElem?_eq_getElem hil)).2 j want hg
          have : (l.take n).toArray[j]? = l.toArray[j]? := by simp [List.getElem?_take, hj]
          simp only [yielded, this]
      unfold qOp at hq
      rw [ho1] at hq
      dsimp only at hq
      rw [hw] at hq
      unfold wpOp
      rw [ho]
      dsimp only
      split
      · rename_i hwt
        rw [if_pos hwt] at hq
        exact .inl (Oper.wp_of_quiet hC hnext hq)
      · rename_i hwt
        rw [if_neg hwt] at hq
        exact hnext _ _ hC hq
def headB (l : List Oper) (n : Nat) : Bool := (l.take n).all fun o => match o.guard with
  | none => true
  | some (j, _) => Nat.blt j n
def tailListed (n g : Nat) : Array Bool := Array.replicate n true ++ Array.replicate g false
/-- The quick look at such a region. -/
def tailB (l : List Oper) (n : Nat) : Bool :=
  Nat.blt n l.length && quickB (l.take n) && headB l n && Region.sinkB .any l.toArray n && Region.chainB .any l.toArray n && Region.seqB .any l.toArray (l.length - n) n (tailListed n (l.length - n))
theorem edges_of_quick {l : List Oper} {n : Nat} (hq : chkB 0 ((l.take n).map (rowOf (l.take n).toArray)) = true) {i : Nat} {o : Oper} (hi : i < n) (ho : l[i]? = some o) : ∀ e ∈ o.after, Region.binds .any e = true → e.on < i := by
  intro e he hb
  have hrow : ((l.take n).map (rowOf (l.take n).toArray))[i]? = some (rowOf (l.take n).toArray o) := by simp [List.getElem?_take, hi, ho]
  have h1 := (chkB_get hq hrow).1
  rw [Nat.zero_add] at h1
  exact mask_lt h1 (List.mem_filterMap.2 ⟨e, by simpa using he, by simp [hb]⟩)
theorem any_region_tail {P : Program} {n : Nat} {l : List Oper} {Q : Exit → Act → World → Prop} {a : Act} {w : World} {C : World → Prop} (hB : tailB l n = true) (hC : C { w with drawn := w.drawn + 1 })
    (h : wpQuiet P (l.take n).toArray C (fun a' => ∀ w', C w' → wpList P l.toArray Q (l.drop n) a' w') (l.take n) a) : wpAny P .any l.toArray Q l.toArray.size (Array.replicate l.toArray.size false) a { w with drawn := w.drawn + 1 } := by
  simp only [tailB, Bool.and_eq_true] at hB
  obtain ⟨⟨⟨⟨⟨hn, hq⟩, hh⟩, hs⟩, hc⟩, hseq⟩ := hB
  have hn := blt hn
  have hq' := hq
  simp only [quickB, Bool.and_eq_true] at hq'
  have hlb := lexB_of_quick hq
  simp only [Region.lexB, Bool.and_eq_true] at hlb
  have hlen : (l.take n).length = n := by simp; omega
  have hQ := wpAnyQ_lex (C := C) (md := .any) hlb.1 (l.take n) 0 (Array.replicate (l.take n).toArray.size false) a (by simp) (by simpa using hlb.2) h
  have inv0 : HeadInv .any l.toArray n (Array.replicate l.toArray.size false) :=
    ⟨by simp, fun j oj _ hl => (by rw [getD_replicate_false] at hl; cases hl), fun t _ ht => getD_in (by simpa using ht) (getD_replicate_false _ _)⟩
  have := headQ (P := P) (l := l) (n := n) (g := l.length - n) (C := C) (Q1 := fun a' => ∀ w', C w' → wpList P l.toArray Q (l.drop n) a' w') (Q := Q) hn hs hc
    (fun i o hi ho => ⟨edges_of_quick hq'.2 hi ho, fun j want hg => by
      have hm : o ∈ l.take n := List.mem_iff_getElem?.2 ⟨i, by simp [List.getElem?_take, hi, ho]⟩
      have := List.all_eq_true.1 hh o hm
      rw [hg] at this
      exact blt this⟩)
    (fun listed' a' w' inv hall hC' h1 => by
      have he : listed' = tailListed n (l.length - n) := by
        apply Array.ext_getElem?
        intro j
        unfold tailListed
        by_cases hj : j < n
        · rw [hall j hj, Array.getElem?_append_left (by simpa using hj), Array.getElem?_replicate, if_pos hj]
        · by_cases hj2 : j < l.length
          · have h3 := inv.tail j (by omega) (by simpa using hj2)
            have h4 : j < listed'.size := by rw [inv.size]; simpa using hj2
            rw [Array.getD_eq_getD_getElem?, Array.getElem?_eq_getElem h4] at h3
            rw [Array.getElem?_eq_getElem h4]
            have h5 : listed'[j] = false := h3
            rw [h5, Array.getElem?_append_right (by simp; omega), Array.getElem?_replicate, if_pos (by simp; omega)]
          · rw [Array.getElem?_eq_none (by rw [inv.size]; simpa using hj2), Array.getElem?_eq_none (by simp only [Array.size_append, Array.size_replicate]; omega)]
      subst he
      have := wpAny_of_seq (P := P) (md := .any) (ops := l.toArray) (Q' := Q) (l.drop n) n (tailListed n (l.length - n)) a' w' (fun j => by simp [List.getElem?_drop]) (by simpa using hseq) (h1 w' hC')
      simpa using this)
    (l.take n).length (Array.replicate l.toArray.size false) (Array.replicate (l.take n).toArray.size false) a { w with drawn := w.drawn + 1 } inv0 (by simp; omega)
    (fun i hi => by
      have h1 : i < (l.take n).length := by omega
      have h2 : i < l.length := by omega
      rw [Array.getElem?_replicate, Array.getElem?_replicate, if_pos (by simpa using h1), if_pos (by simpa using h2)]) hC (by simpa using hQ)
  rw [hlen, show n + (l.length - n) = l.length from by omega] at this
  simpa using this
theorem wp_region_tail {P : Program} {id n : Nat} {l : List Oper} {Q : Exit → Act → World → Prop} {a : Act} {w : World} {C : World → Prop} (hm : P.follows .mixedOrders = true) (hB : tailB l n = true) (hC : C { w with drawn := w.drawn + 1 })
    (h : wpQuiet P (l.take n).toArray C (fun a' => ∀ w', C w' → wpList P l.toArray Q (l.drop n) a' w') (l.take n) a) : (Code.region id l.toArray true).wp P Q a w :=
  wp_region_any hm (any_region_tail hB hC h)

/-- A region that draws its order, whose operations are quiet while the world grows. -/
theorem WC.regionDq {P : Program} {n : Nat} {Q : Exit → Act → World → Prop} {E : Env} {w : World} {id : Nat} {l l' : List Oper} (hm : P.follows .mixedOrders = true) (hB : quickB l = true) (hl : l = l')
    (h : WQ P n l.toArray (Ext w) (fun a' => ∀ w', Ext w w' → Q .normal a' w') l' E) : WC P n (.region id l.toArray true) Q E w :=
  WC.regionD hm (lexB_of_quick hB) hl h
/-- .. and then a tail in one order. -/
theorem WC.regionT {P : Program} {n : Nat} {Q : Exit → Act → World → Prop} {E : Env} {w : World} {id : Nat} {l : List Oper} (m : Nat) (hm : P.follows .mixedOrders = true) (hB : tailB l m = true)
    (h : WQ P n (l.take m).toArray (Ext w) (fun a' => ∀ w', Ext w w' → wpList P l.toArray Q (l.drop m) a' w') (l.take m) E) : WC P n (.region id l.toArray true) Q E w :=
  fun a ha => wp_region_tail hm hB ((Ext.refl w).drawn (Nat.le_succ _)) (h a ha)
theorem WQ.tail {P : Program} {n : Nat} {ops ops1 : Array Oper} {Q : Exit → Act → World → Prop} {E : Env} {w : World} {r : List Oper} (h : ∀ w', Ext w w' → WL P n ops Q r E w') : WQ P n ops1 (Ext w) (fun a' => ∀ w', Ext w w' → wpList P ops Q r a' w') [] E :=
  WQ.nil fun a ha w' hw => h w' hw a ha
end Go.Eng
