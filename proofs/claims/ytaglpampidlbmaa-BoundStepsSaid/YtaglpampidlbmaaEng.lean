/- The walker's own rules: one lemma for each form of code and each operation of the model, over any program.
   Conditions: none; nothing here speaks of a given program. -/
import Derived.WalkKit
import Derived.Test.YtaglpampidlbmaaDrawn
import Derived.ProofKit
import Derived.Deep.Quiet
namespace Go.Eng
open Go Go.RowKit

/-! ### The frame as a list of slots and values, the newest first -/
abbrev Env := List (Nat × Value)
theorem blt {a b : Nat} (h : Nat.blt a b = true) : a < b := by simpa [Nat.blt_eq] using h
theorem ble {a b : Nat} (h : Nat.ble a b = true) : a ≤ b := Nat.le_of_ble_eq_true h
def look : Nat → Env → Option Value
  | _, [] => none
  | t, (k, v) :: r => bif Nat.beq k t then some v else look t r

structure Ok (n : Nat) (E : Env) (a : Act) : Prop where
  defers : a.defers = []
  size : a.tmps.size = n
  at_ : ∀ t v, look t E = some v → a.tmps[t]? = some v

def ev (E : Env) : Operand → Option Value
  | .tmp t => look t E
  | .const v => some v
  | .global g => some (.pointer (some ⟨g, 0, none⟩))
  | .func f => some (.func (.func f) #[] #[])

theorem Ok.ev {n : Nat} {E : Env} {a : Act} (h : Ok n E a) {x : Operand} {v : Value} (hx : Eng.ev E x = some v) : a.eval x = v := by
  cases x with
  | tmp t =>
    have := h.at_ t v hx
    simp [Act.eval, Array.getD_eq_getD_getElem?, this]
  | const u => injection hx
  | global g => injection hx
  | func f => injection hx

theorem Ok.put {n : Nat} {E : Env} {a : Act} (h : Ok n E a) {d : Nat} (hd : d < n) (v : Value) : Ok n ((d, v) :: E) (a.put (some d) v) := by
  refine ⟨h.defers, by simpa [Act.put] using h.size, fun t u hu => ?_⟩
  simp only [look] at hu
  by_cases hk : d = t
  · subst hk
    simp at hu
    subst hu
    simp [Act.put, h.size, hd]
  · have hb : Nat.beq d t = false := by
      cases hh : Nat.beq d t
      · rfl
      · exact absurd (Nat.eq_of_beq_eq_true hh) hk
    rw [hb] at hu
    have := h.at_ t u (by simpa using hu)
    simp only [Act.put]
    rw [Array.getElem?_setIfInBounds_ne hk]
    exact this

/-- A smaller list of the same slots. -/
def Sub : Env → Env → Prop
  | [], _ => True
  | (t, v) :: r, E => look t E = some v ∧ Sub r E

theorem Sub.look {E' E : Env} (h : Sub E' E) : ∀ t v, Eng.look t E' = some v → Eng.look t E = some v := by
  induction E' with
  | nil => intro t v hv; cases hv
  | cons p r ih =>
    intro t v hv
    obtain ⟨k, u⟩ := p
    simp only [Eng.look] at hv
    cases hb : Nat.beq k t with
    | true =>
      rw [hb] at hv
      simp at hv
      have := Nat.eq_of_beq_eq_true hb
      subst this; subst hv
      exact h.1
    | false =>
      rw [hb] at hv
      exact ih h.2 t v (by simpa using hv)

theorem Ok.sub {n : Nat} {E E' : Env} {a : Act} (h : Ok n E a) (hs : Sub E' E) : Ok n E' a :=
  ⟨h.defers, h.size, fun t v hv => h.at_ t v (hs.look t v hv)⟩

/-! ### The goals of a walk -/
def WC (P : Program) (n : Nat) (c : Code) (Q : Exit → Act → World → Prop) (E : Env) (w : World) : Prop := ∀ a, Ok n E a → c.wp P Q a w
def WL (P : Program) (n : Nat) (ops : Array Oper) (Q : Exit → Act → World → Prop) (l : List Oper) (E : Env) (w : World) : Prop := ∀ a, Ok n E a → wpList P ops Q l a w
def WK (n : Nat) (K : Act → World → Prop) (E : Env) (w : World) : Prop := ∀ a, Ok n E a → K a w

section code
variable {P : Program} {n : Nat} {Q : Exit → Act → World → Prop} {E : Env} {w : World}

theorem WC.seq {x y : Code} (h : ∀ K : Act → World → Prop, (∀ E w, WC P n y Q E w → WK n K E w) → WC P n x (Exit.then K Q) E w) : WC P n (.seq x y) Q E w := by
  intro a ha
  refine wp_seq ?_
  exact h (fun a w => y.wp P Q a w) (fun E w hc a ha => hc a ha) a ha
theorem WC.skip (h : WK n (Q .normal) E w) : WC P n .skip Q E w := fun a ha => wp_skip (h a ha)
theorem WC.ret (h : WK n (Q .ret) E w) : WC P n .ret Q E w := fun a ha => wp_ret (h a ha)
theorem WC.exit {id : Nat} (h : WK n (Q (.exit id)) E w) : WC P n (.exit id) Q E w := fun a ha => wp_exit (h a ha)
theorem WC.block {id : Nat} {c : Code} (h : WC P n c (Exit.inBlock id Q) E w) : WC P n (.block id c) Q E w := fun a ha => wp_block (h a ha)
theorem WC.cond {c : Operand} {x y : Code} {b : Bool} (hc : ev E c = some (.bool b)) (ht : b = true → WC P n x Q E w) (hf : b = false → WC P n y Q E w) : WC P n (.cond c x y) Q E w := by
  intro a ha
  cases b with
  | true => exact wp_cond_true (ha.ev hc) (ht rfl a ha)
  | false => exact wp_cond_false (ha.ev hc) (hf rfl a ha)
theorem WC.condT {c : Operand} {x y : Code} (hc : ev E c = some (.bool true)) (h : WC P n x Q E w) : WC P n (.cond c x y) Q E w := fun a ha => wp_cond_true (ha.ev hc) (h a ha)
theorem WC.condF {c : Operand} {x y : Code} (hc : ev E c = some (.bool false)) (h : WC P n y Q E w) : WC P n (.cond c x y) Q E w := fun a ha => wp_cond_false (ha.ev hc) (h a ha)
theorem WC.region {id : Nat} {l l' : List Oper} (hl : l = l') (h : WL P n l.toArray Q l' E w) : WC P n (.region id l.toArray false) Q E w := by
  subst hl; exact fun a ha => wp_region_lit (h a ha)
theorem WC.sub {c : Code} (E' : Env) (hs : Sub E' E) (h : WC P n c Q E' w) : WC P n c Q E w := fun a ha => h a (ha.sub hs)
theorem WK.sub {K : Act → World → Prop} (E' : Env) (hs : Sub E' E) (h : WK n K E' w) : WK n K E w := fun a ha => h a (ha.sub hs)

/-- A loop: 'I' says what holds at each round's head of the frame (as a list) and the world; 'm' is the measure, a parameter of 'I'. -/
theorem WC.loop {c : Code} (I : Nat → Env → World → Prop) (m : Nat) (h₀ : I m E w)
    (round : ∀ m E w, I m E w → WC P n c (Exit.then (fun a' w' => ∃ m' E', m' < m ∧ I m' E' w' ∧ Ok n E' a') Q) E w) : WC P n (.loop c) Q E w := by
  intro a ha b k cs
  have key : ∀ m, ∀ a w E, I m E w → Ok n E a → ∃ e a' w', Q e a' w' ∧ Arrives P (lone (b.at a (.code c :: .inLoop c :: k)) cs w) b k cs e a' w' := by
    intro m
    induction m using Nat.strongRecOn with
    | _ m ih =>
      intro a w E hI hok
      obtain ⟨e, a₁, w₁, hq, harr⟩ := round m E w hI a hok b (.inLoop c :: k) cs
      cases e with
      | normal =>
        obtain ⟨m', E', hlt, hI', hok'⟩ := hq
        obtain ⟨e₂, a₂, w₂, hq₂, harr₂⟩ := ih m' hlt a₁ w₁ E' hI' hok'
        exact ⟨e₂, a₂, w₂, hq₂, .of_steps (Steps.trans harr (.one step_inLoop)) harr₂⟩
      | exit id => exact ⟨_, a₁, w₁, hq, .pass (x := .inLoop c) rfl (fun _ _ => .inl (by simp)) harr⟩
      | goto l => exact ⟨_, a₁, w₁, hq, .pass (x := .inLoop c) rfl (fun _ _ => .inl (by simp)) harr⟩
      | ret => exact ⟨_, a₁, w₁, hq, .pass (x := .inLoop c) rfl (fun _ _ => .inl (by simp)) harr⟩
      | panic ch => exact ⟨_, a₁, w₁, hq, .pass (x := .inLoop c) rfl (fun _ _ => .inl (by simp)) harr⟩
      | outgrown => exact ⟨_, a₁, w₁, hq, .pass (x := .inLoop c) rfl (fun _ _ => .inl (by simp)) harr⟩
  obtain ⟨e, a', w', hq, harr⟩ := key m a w E h₀ ha
  exact ⟨e, a', w', hq, .of_steps (.one step_loop) harr⟩
end code

/-! ### Worlds that have only grown -/
/-- Of draws nothing is said here. -/
abbrev Dle (_a _b : Nat) : Prop := True
theorem Dle.of {a b : Nat} (_h : a ≤ b) : Dle a b := trivial
theorem Dle.trans {a b c : Nat} (_h : Dle a b) (_k : Dle b c) : Dle a c := trivial
structure Ext (w w' : World) : Prop extends Below w.heap.size w w' where
  dr : Dle w.drawn w'.drawn
theorem Ext.of {w w' : World} (h : Below w.heap.size w w') : Ext w w' := ⟨h, trivial⟩
theorem Ext.refl (w : World) : Ext w w := ⟨Below.refl _ _, Dle.of (Nat.le_refl _)⟩
theorem Ext.trans {a b c : World} (h : Ext a b) (k : Ext b c) : Ext a c := ⟨Below.trans h.toBelow (Below.mono k.toBelow h.size), Dle.trans h.dr k.dr⟩
theorem Ext.alloc {a w : World} (h : Ext a w) (o : Obj) : Ext a (w.alloc o) := ⟨Below.alloc h.toBelow h.size o, h.dr⟩
theorem Ext.drawn {a w : World} (h : Ext a w) {k : Nat} (hk : w.drawn ≤ k) : Ext a { w with drawn := k } := ⟨⟨h.os, h.tape, h.output, h.size, h.block⟩, Dle.trans h.dr (Dle.of hk)⟩
theorem Ext.cell {w w' : World} (h : Ext w w') {p : Addr} (hp : p.block < w.heap.size) : w'.cell? p = w.cell? p := Below.cell h.toBelow hp
theorem cell_lt {w : World} {p : Addr} {v : Value} (h : w.cell? p = some v) : p.block < w.heap.size := by
  unfold World.cell? at h
  rcases Nat.lt_or_ge p.block w.heap.size with hlt | hge
  · exact hlt
  · rw [Array.getElem?_eq_none hge] at h; cases h
theorem Ext.cell_some {w w' : World} (h : Ext w w') {p : Addr} {v : Value} (hc : w.cell? p = some v) : w'.cell? p = some v := (h.cell (cell_lt hc)).trans hc

/-- Block g is just these cells, none frozen. -/
def Blk (w : World) (g : Nat) (t : TypeId) (cs : List Value) : Prop := w.heap[g]? = some (.cells cs.toArray t (0, 0))
section blk
variable {w w' : World} {g : Nat} {t : TypeId} {cs : List Value}
theorem Blk.lt (h : Blk w g t cs) : g < w.heap.size := by
  rcases Nat.lt_or_ge g w.heap.size with hlt | hge
  · exact hlt
  · unfold Blk at h; rw [Array.getElem?_eq_none hge] at h; cases h
theorem Blk.cell (h : Blk w g t cs) {i : Nat} {v : Value} (hv : cs[i]? = some v) : w.cell? ⟨g, i, none⟩ = some v := by
  rw [cell_of_row w g i cs.toArray t (0, 0) h]; simpa using hv
theorem Blk.frozen (h : Blk w g t cs) (i : Nat) : w.frozen? ⟨g, i, none⟩ = false := by
  unfold Blk at h
  simp [World.frozen?, h]
theorem Blk.ext (h : Blk w g t cs) (x : Ext w w') : Blk w' g t cs := (x.block g h.lt).trans h
theorem Blk.new (w : World) (t : TypeId) (cs : List Value) : Blk (w.alloc (.cells cs.toArray t)) w.heap.size t cs := heap_alloc_new w _
theorem Blk.set_ (h : Blk w g t cs) (i : Nat) (u : Value) : Blk (w.setCell ⟨g, i, none⟩ u) g t (cs.set i u) := by
  unfold Blk at h ⊢
  simp [World.setCell, Array.getElem?_modify, h]
theorem Blk.far (h : Blk w g t cs) {p : Addr} (hp : g ≠ p.block) (u : Value) : Blk (w.setCell p u) g t cs := (Below.heap_setCell w p u g hp).trans h
end blk

/-- Only block b has turned. -/
structure Only (b : Nat) (w w' : World) : Prop where
  os : w'.os = w.os
  tape : w'.tape = w.tape
  output : w'.output = w.output
  size : w'.heap.size = w.heap.size
  block : ∀ k, k ≠ b → w'.heap[k]? = w.heap[k]?
  dr : Dle w.drawn w'.drawn
theorem Only.setCell (w : World) (p : Addr) (u : Value) : Only p.block w (w.setCell p u) :=
  ⟨rfl, rfl, rfl, by simp [World.setCell], fun k hk => Below.heap_setCell w p u k hk, Dle.of (Nat.le_refl _)⟩
theorem Only.trans {b : Nat} {w w' w'' : World} (h : Only b w w') (k : Only b w' w'') : Only b w w'' :=
  ⟨k.os.trans h.os, k.tape.trans h.tape, k.output.trans h.output, k.size.trans h.size, fun i hi => (k.block i hi).trans (h.block i hi), Dle.trans h.dr k.dr⟩
theorem Only.refl (b : Nat) (w : World) : Only b w w := ⟨rfl, rfl, rfl, rfl, fun _ _ => rfl, Dle.of (Nat.le_refl _)⟩
theorem Blk.only {w w' : World} {g b : Nat} {t : TypeId} {cs : List Value} (h : Blk w g t cs) (hne : g ≠ b) (x : Only b w w') : Blk w' g t cs := (x.block g hne).trans h
theorem Ext.only {a w w' : World} {b : Nat} (h : Ext a w) (x : Only b w w') (hb : a.heap.size ≤ b) : Ext a w' :=
  ⟨⟨x.os.trans h.os, x.tape.trans h.tape, x.output.trans h.output, by rw [x.size]; exact h.size, fun k hk => (x.block k (by omega)).trans (h.block k hk)⟩, Dle.trans h.dr x.dr⟩

/-! ### Operations that leave the world as it is and yield one value in every world of a class -/
def Yld (P : Program) (o : Oper) (n : Nat) (E : Env) (C : World → Prop) (v : Value) : Prop := ∀ a w, Ok n E a → C w → (execOp a.eval o).run P w = .ok (.value v) w

/-- What a guarded operation leaves. -/
def gv (b want : Bool) (v : Value) : Value := bif (b == want) then v else undef
theorem gv_yes {b want : Bool} (h : b = want) (v : Value) : gv b want v = v := by subst h; simp [gv]
theorem evg {E : Env} {x : Operand} {b want : Bool} {u : Value} (h : ev E x = some (gv b want u)) (hb : b = want) : ev E x = some u := by rw [h, gv_yes hb]

theorem wanted_plain {o : Oper} (h : o.guard = none) (y : Nat → Option Bool) : Region.wanted o y = true := by simp [Region.wanted, h]
theorem Ok.yielded {n : Nat} {E : Env} {a : Act} (h : Ok n E a) {ops : Array Oper} {j t : Nat} {b : Bool} (hj : (ops[j]?).bind (·.dst) = some t) (ht : look t E = some (.bool b)) : yielded ops a.tmps j = some b := by
  simp [Go.yielded, hj, h.at_ t _ ht]
theorem wanted_guard {n : Nat} {E : Env} {a : Act} (h : Ok n E a) {o : Oper} {ops : Array Oper} {j t : Nat} {b want : Bool} (hg : o.guard = some (j, want)) (hj : (ops[j]?).bind (·.dst) = some t) (ht : look t E = some (.bool b)) :
    Region.wanted o (yielded ops a.tmps) = (b == want) := by
  simp [Region.wanted, hg, h.yielded hj ht]

section plain
variable {P : Program} {n : Nat} {ops : Array Oper} {Q : Exit → Act → World → Prop} {E : Env} {w : World} {o : Oper} {rest : List Oper} {d : Nat} {v : Value}

theorem WL.nil (h : WK n (Q .normal) E w) : WL P n ops Q [] E w := fun a ha => wpList_nil (h a ha)

theorem wp_of_run {a : Act} {K : Act → World → Prop} {Q : Exit → Act → World → Prop} {w' : World} (hr : (execOp a.eval o).run P w = .ok (.value v) w') (h : K (a.put o.dst v) w') : o.wp P a w K Q := by
  unfold Oper.wp; rw [hr]; exact h

theorem WL.yld (hd : o.dst = some d) (hn : d < n) (hg : o.guard = none) (hy : Yld P o n E (· = w) v) (h : WL P n ops Q rest ((d, v) :: E) w) : WL P n ops Q (o :: rest) E w := by
  intro a ha
  refine wpList_plain hg fun K hK => wp_of_run (hy a w ha rfl) (hK _ _ ?_)
  rw [hd]; exact h _ (ha.put hn v)

/-- A guard that is known. -/
theorem WL.yldW {j t : Nat} {want : Bool} (hd : o.dst = some d) (hn : d < n) (hg : o.guard = some (j, want)) (hj : (ops[j]?).bind (·.dst) = some t) (ht : look t E = some (.bool want)) (hy : Yld P o n E (· = w) v) (h : WL P n ops Q rest ((d, v) :: E) w) : WL P n ops Q (o :: rest) E w := by
  intro a ha
  refine wpList_step fun K hK => ?_
  rw [if_pos (by rw [wanted_guard ha hg hj ht]; simp)]
  refine wp_of_run (hy a w ha rfl) (hK _ _ ?_)
  rw [hd]; exact h _ (ha.put hn v)
theorem WL.skip {j t : Nat} {want b : Bool} (hd : o.dst = some d) (hn : d < n) (hg : o.guard = some (j, want)) (hj : (ops[j]?).bind (·.dst) = some t) (ht : look t E = some (.bool b)) (hb : (b == want) = false) (h : WL P n ops Q rest ((d, undef) :: E) w) : WL P n ops Q (o :: rest) E w := by
  intro a ha
  refine wpList_step fun K hK => ?_
  rw [if_neg (by rw [wanted_guard ha hg hj ht, hb]; simp)]
  refine hK _ _ ?_
  rw [hd]; exact h _ (ha.put hn _)
/-- A guard that is a Bool of whatever value. -/
theorem WL.yldG {j t : Nat} {want b : Bool} (hd : o.dst = some d) (hn : d < n) (hg : o.guard = some (j, want)) (hj : (ops[j]?).bind (·.dst) = some t) (ht : look t E = some (.bool b)) (hy : b = want → Yld P o n E (· = w) v) (h : WL P n ops Q rest ((d, gv b want v) :: E) w) : WL P n ops Q (o :: rest) E w := by
  intro a ha
  refine wpList_step fun K hK => ?_
  rw [wanted_guard ha hg hj ht]
  by_cases hb : b = want
  · rw [if_pos (by simp [hb])]
    refine wp_of_run (hy hb a w ha rfl) (hK _ _ ?_)
    rw [hd]
    have := h _ (ha.put hn (gv b want v))
    rwa [gv_yes hb] at this
  · have hb' : (b == want) = false := by simp [hb]
    rw [if_neg (by rw [hb']; simp)]
    refine hK _ _ ?_
    rw [hd]
    have := h _ (ha.put hn (gv b want v))
    have e : gv b want v = undef := by simp [gv, hb']
    rwa [e] at this
end plain

section quiet
variable {P : Program} {n : Nat} {ops : Array Oper} {C : World → Prop} {Q : Act → Prop} {E : Env} {o : Oper} {rest : List Oper} {d : Nat} {v : Value}
def WQ (P : Program) (n : Nat) (ops : Array Oper) (C : World → Prop) (Q : Act → Prop) (l : List Oper) (E : Env) : Prop := ∀ a, Ok n E a → wpQuiet P ops C Q l a

theorem quietAt_of_run {a : Act} {w : World} (hr : (execOp a.eval o).run P w = .ok (.value v) w) : o.quietAt P a C w v := by
  unfold Oper.quietAt; rw [hr]; exact ⟨rfl, rfl⟩

theorem WQ.yld (hd : o.dst = some d) (hn : d < n) (hg : o.guard = none) (hy : Yld P o n E C v) (h : WQ P n ops C Q rest ((d, v) :: E)) : WQ P n ops C Q (o :: rest) E := by
  intro a ha
  unfold wpQuiet
  rw [if_pos (wanted_plain hg _)]
  exact ⟨v, fun w hw => quietAt_of_run (hy a w ha hw), by rw [hd]; exact h _ (ha.put hn v)⟩
theorem WQ.yldW {j t : Nat} {want : Bool} (hd : o.dst = some d) (hn : d < n) (hg : o.guard = some (j, want)) (hj : (ops[j]?).bind (·.dst) = some t) (ht : look t E = some (.bool want)) (hy : Yld P o n E C v) (h : WQ P n ops C Q rest ((d, v) :: E)) : WQ P n ops C Q (o :: rest) E := by
  intro a ha
  unfold wpQuiet
  rw [if_pos (by rw [wanted_guard ha hg hj ht]; simp)]
  exact ⟨v, fun w hw => quietAt_of_run (hy a w ha hw), by rw [hd]; exact h _ (ha.put hn v)⟩
theorem WQ.skip {j t : Nat} {want b : Bool} (hd : o.dst = some d) (hn : d < n) (hg : o.guard = some (j, want)) (hj : (ops[j]?).bind (·.dst) = some t) (ht : look t E = some (.bool b)) (hb : (b == want) = false) (h : WQ P n ops C Q rest ((d, undef) :: E)) : WQ P n ops C Q (o :: rest) E := by
  intro a ha
  unfold wpQuiet
  rw [if_neg (by rw [wanted_guard ha hg hj ht, hb]; simp), hd]
  exact h _ (ha.put hn _)
theorem WQ.yldG {j t : Nat} {want b : Bool} (hd : o.dst = some d) (hn : d < n) (hg : o.guard = some (j, want)) (hj : (ops[j]?).bind (·.dst) = some t) (ht : look t E = some (.bool b)) (hy : b = want → Yld P o n E C v) (h : WQ P n ops C Q rest ((d, gv b want v) :: E)) : WQ P n ops C Q (o :: rest) E := by
  intro a ha
  unfold wpQuiet
  rw [wanted_guard ha hg hj ht]
  have hh := h _ (ha.put hn (gv b want v))
  by_cases hb : b = want
  · rw [if_pos (by simp [hb])]
    rw [gv_yes hb] at hh
    exact ⟨v, fun w hw => quietAt_of_run (hy hb a w ha hw), by rw [hd]; exact hh⟩
  · have hb' : (b == want) = false := by simp [hb]
    rw [if_neg (by rw [hb']; simp), hd]
    have e : gv b want v = undef := by simp [gv, hb']
    rwa [e] at hh
theorem WQ.nil (h : ∀ a, Ok n E a → Q a) : WQ P n ops C Q [] E := fun a ha => wpQuiet_nil (h a ha)

end quiet

/-! ### Calls -/
def evs (E : Env) : List Operand → Option (List Value)
  | [] => some []
  | x :: r => match ev E x, evs E r with
    | some v, some vs => some (v :: vs)
    | _, _ => none
theorem Ok.evs {n : Nat} {E : Env} {a : Act} (h : Ok n E a) : ∀ {l : List Operand} {vs : List Value}, Eng.evs E l = some vs → l.map a.eval = vs
  | [], vs, hv => by simp [Eng.evs] at hv; subst hv; rfl
  | x :: r, vs, hv => by
    simp only [Eng.evs] at hv
    split at hv
    · rename_i v us h1 h2
      injection hv with hv; subst hv
      simp [h.ev h1, h.evs h2]
    · cases hv

/-- Function f has a body and is no function of the runtime's. -/
def Has (P : Program) (f : FuncId) : Prop := ∃ fn, P.funcs[f]? = some fn ∧ fn.body.isNone = false ∧ (fn.name == "runtime.NumGoroutine") = false
theorem run_callFunc {P : Program} {f : FuncId} (h : Has P f) (args : Array Value) (w : World) : (callFunc f args).run P w = .ok (.enter f args) w := by
  obtain ⟨fn, h1, h2, h3⟩ := h
  simp only [callFunc, Sem.run_bind, run_program, Result.andThen_ok, h1, h2, h3, Bool.false_eq_true, if_false, Sem.run_pure]

theorem run_call {P : Program} {n : Nat} {E : Env} {a : Act} {w : World} {o : Oper} {c : Call} {x : Operand} {f : FuncId} {fst cap : Array Value} {args : List Value} (h : Ok n E a) (ho : o.op = .call c) (hc : c.callee = .value x)
    (hx : ev E x = some (.func (.func f) fst cap)) (hf : Has P f) (ha : evs E c.args.toList = some args) : (execOp a.eval o).run P w = .ok (.enter f (fst ++ args.toArray ++ cap)) w := by
  have h1 : c.args.map a.eval = args.toArray := by
    have := h.evs ha
    rw [← this, ← List.map_toArray]
  simp [execOp, ho, resolve, hc, h.ev hx, Deferred.ofValue, invoke, h1, run_callFunc hf]

section calls
variable {P : Program} {n : Nat} {ops : Array Oper} {E : Env} {o : Oper} {rest : List Oper} {d : Nat} {v : Value} {c : Call} {x : Operand} {f : FuncId} {args : List Value} {as : Array Value} {w : World}

theorem wp_of_enter {a : Act} {K : Act → World → Prop} {Q : Exit → Act → World → Prop} {R : Ending → World → Prop} (hr : (execOp a.eval o).run P w = .ok (.enter f as) w) (hk : Calls P f as w R) (h : ∀ e w', R e w' → ∃ v, e = .returned v ∧ K (a.put o.dst v) w') : o.wp P a w K Q := by
  unfold Oper.wp
  rw [hr]
  refine hk.mono fun e w' hR => ?_
  obtain ⟨v, rfl, hv⟩ := h e w' hR
  exact hv

/-- A call: the callee's contract, then what it gives. -/
theorem WL.call {Q : Exit → Act → World → Prop} {R : Ending → World → Prop} (hd : o.dst = some d) (hn : d < n) (hg : o.guard = none) (ho : o.op = .call c) (hc : c.callee = .value (.func f)) (hf : Has P f) (ha : evs E c.args.toList = some args)
    (hk : Calls P f args.toArray w R) (h : ∀ e w', R e w' → ∃ v, e = .returned v ∧ WL P n ops Q rest ((d, v) :: E) w') : WL P n ops Q (o :: rest) E w := by
  intro a hA
  refine wpList_plain hg fun K hK => ?_
  refine wp_of_enter (R := R) (by have := run_call (P := P) (w := w) (fst := #[]) (cap := #[]) hA ho hc rfl hf ha; simpa using this) hk fun e w' hR => ?_
  obtain ⟨v, he, hv⟩ := h e w' hR
  exact ⟨v, he, hK _ _ (by rw [hd]; exact hv _ (hA.put hn v))⟩
/-- .. of a function value. -/
theorem WL.callV {Q : Exit → Act → World → Prop} {R : Ending → World → Prop} {fst cap : Array Value} (hd : o.dst = some d) (hn : d < n) (hg : o.guard = none) (ho : o.op = .call c) (hc : c.callee = .value x) (hx : ev E x = some (.func (.func f) fst cap)) (hf : Has P f) (ha : evs E c.args.toList = some args)
    (hk : Calls P f (fst ++ args.toArray ++ cap) w R) (h : ∀ e w', R e w' → ∃ v, e = .returned v ∧ WL P n ops Q rest ((d, v) :: E) w') : WL P n ops Q (o :: rest) E w := by
  intro a hA
  refine wpList_plain hg fun K hK => ?_
  refine wp_of_enter (R := R) (run_call hA ho hc hx hf ha) hk fun e w' hR => ?_
  obtain ⟨v, he, hv⟩ := h e w' hR
  exact ⟨v, he, hK _ _ (by rw [hd]; exact hv _ (hA.put hn v))⟩
/-- .. whose result is dropped. -/
theorem WL.call0 {Q : Exit → Act → World → Prop} {R : Ending → World → Prop} (hd : o.dst = none) (hg : o.guard = none) (ho : o.op = .call c) (hc : c.callee = .value (.func f)) (hf : Has P f) (ha : evs E c.args.toList = some args)
    (hk : Calls P f args.toArray w R) (h : ∀ e w', R e w' → ∃ v, e = .returned v ∧ WL P n ops Q rest E w') : WL P n ops Q (o :: rest) E w := by
  intro a hA
  refine wpList_plain hg fun K hK => ?_
  refine wp_of_enter (R := R) (by have := run_call (P := P) (w := w) (fst := #[]) (cap := #[]) hA ho hc rfl hf ha; simpa using this) hk fun e w' hR => ?_
  obtain ⟨v, he, hv⟩ := h e w' hR
  exact ⟨v, he, hK _ _ (by rw [hd]; exact hv _ hA)⟩
/-- A call under a guard that is known. -/
theorem WL.callW {Q : Exit → Act → World → Prop} {R : Ending → World → Prop} {j t : Nat} {want : Bool} (hd : o.dst = some d) (hn : d < n) (hg : o.guard = some (j, want)) (hj : (ops[j]?).bind (·.dst) = some t) (ht : look t E = some (.bool want)) (ho : o.op = .call c) (hc : c.callee = .value (.func f)) (hf : Has P f) (ha : evs E c.args.toList = some args)
    (hk : Calls P f args.toArray w R) (h : ∀ e w', R e w' → ∃ v, e = .returned v ∧ WL P n ops Q rest ((d, v) :: E) w') : WL P n ops Q (o :: rest) E w := by
  intro a hA
  refine wpList_step fun K hK => ?_
  rw [if_pos (by rw [wanted_guard hA hg hj ht]; simp)]
  refine wp_of_enter (R := R) (by have := run_call (P := P) (w := w) (fst := #[]) (cap := #[]) hA ho hc rfl hf ha; simpa using this) hk fun e w' hR => ?_
  obtain ⟨v, he, hv⟩ := h e w' hR
  exact ⟨v, he, hK _ _ (by rw [hd]; exact hv _ (hA.put hn v))⟩
/-- A call under a guard of whatever value: the contract names the value, and the world grows. -/
theorem WL.callG {Q : Exit → Act → World → Prop} {j t : Nat} {b want : Bool} (hd : o.dst = some d) (hn : d < n) (hg : o.guard = some (j, want)) (hj : (ops[j]?).bind (·.dst) = some t) (ht : look t E = some (.bool b)) (ho : o.op = .call c) (hc : c.callee = .value (.func f)) (hf : Has P f)
    (ha : b = want → evs E c.args.toList = some args) (hk : b = want → Calls P f args.toArray w fun e w' => e = .returned v ∧ Ext w w') (h : ∀ w', Ext w w' → WL P n ops Q rest ((d, gv b want v) :: E) w') : WL P n ops Q (o :: rest) E w := by
  intro a hA
  refine wpList_step fun K hK => ?_
  rw [wanted_guard hA hg hj ht]
  by_cases hb : b = want
  · rw [if_pos (by simp [hb])]
    refine wp_of_enter (by have := run_call (P := P) (w := w) (fst := #[]) (cap := #[]) hA ho hc rfl hf (ha hb); simpa using this) (hk hb) fun e w' hR => ?_
    obtain ⟨he, hx⟩ := hR
    refine ⟨v, he, hK _ _ ?_⟩
    have := h w' hx _ (hA.put hn (gv b want v))
    rw [gv_yes hb] at this
    rw [hd]; exact this
  · have hb' : (b == want) = false := by simp [hb]
    rw [if_neg (by rw [hb']; simp)]
    refine hK _ _ ?_
    have := h w (Ext.refl w) _ (hA.put hn (gv b want v))
    have e : gv b want v = undef := by simp [gv, hb']
    rw [e] at this
    rw [hd]; exact this

variable {C : World → Prop} {Qq : Act → Prop}
theorem quietAt_of_enter {a : Act} (hr : (execOp a.eval o).run P w = .ok (.enter f as) w) (hk : Calls P f as w fun e w' => e = .returned v ∧ C w') : o.quietAt P a C w v := by
  unfold Oper.quietAt; rw [hr]; exact ⟨rfl, hk⟩
theorem WQ.call (hd : o.dst = some d) (hn : d < n) (hg : o.guard = none) (ho : o.op = .call c) (hc : c.callee = .value (.func f)) (hf : Has P f) (ha : evs E c.args.toList = some args)
    (hk : ∀ w, C w → Calls P f args.toArray w fun e w' => e = .returned v ∧ C w') (h : WQ P n ops C Qq rest ((d, v) :: E)) : WQ P n ops C Qq (o :: rest) E := by
  intro a hA
  unfold wpQuiet
  rw [if_pos (wanted_plain hg _)]
  exact ⟨v, fun w hw => quietAt_of_enter (by have := run_call (P := P) (w := w) (fst := #[]) (cap := #[]) hA ho hc rfl hf ha; simpa using this) (hk w hw), by rw [hd]; exact h _ (hA.put hn v)⟩
theorem WQ.callW {j t : Nat} {want : Bool} (hd : o.dst = some d) (hn : d < n) (hg : o.guard = some (j, want)) (hj : (ops[j]?).bind (·.dst) = some t) (ht : look t E = some (.bool want)) (ho : o.op = .call c) (hc : c.callee = .value (.func f)) (hf : Has P f) (ha : evs E c.args.toList = some args)
    (hk : ∀ w, C w → Calls P f args.toArray w fun e w' => e = .returned v ∧ C w') (h : WQ P n ops C Qq rest ((d, v) :: E)) : WQ P n ops C Qq (o :: rest) E := by
  intro a hA
  unfold wpQuiet
  rw [if_pos (by rw [wanted_guard hA hg hj ht]; simp)]
  exact ⟨v, fun w hw => quietAt_of_enter (by have := run_call (P := P) (w := w) (fst := #[]) (cap := #[]) hA ho hc rfl hf ha; simpa using this) (hk w hw), by rw [hd]; exact h _ (hA.put hn v)⟩
theorem WQ.callG {j t : Nat} {b want : Bool} (hd : o.dst = some d) (hn : d < n) (hg : o.guard = some (j, want)) (hj : (ops[j]?).bind (·.dst) = some t) (ht : look t E = some (.bool b)) (ho : o.op = .call c) (hc : c.callee = .value (.func f)) (hf : Has P f)
    (ha : b = want → evs E c.args.toList = some args) (hk : b = want → ∀ w, C w → Calls P f args.toArray w fun e w' => e = .returned v ∧ C w') (h : WQ P n ops C Qq rest ((d, gv b want v) :: E)) : WQ P n ops C Qq (o :: rest) E := by
  intro a hA
  unfold wpQuiet
  rw [wanted_guard hA hg hj ht]
  have hh := h _ (hA.put hn (gv b want v))
  by_cases hb : b = want
  · rw [if_pos (by simp [hb])]
    rw [gv_yes hb] at hh
    exact ⟨v, fun w hw => quietAt_of_enter (by have := run_call (P := P) (w := w) (fst := #[]) (cap := #[]) hA ho hc rfl hf (ha hb); simpa using this) (hk hb w hw), by rw [hd]; exact hh⟩
  · have hb' : (b == want) = false := by simp [hb]
    rw [if_neg (by rw [hb']; simp), hd]
    have e : gv b want v = undef := by simp [gv, hb']
    rwa [e] at hh
/-- A contract at a world that has grown. -/
theorem calls_ext {w0 w : World} (hx : Ext w0 w) (h : Calls P f as w fun e w' => e = .returned v ∧ Ext w w') : Calls P f as w fun e w' => e = .returned v ∧ Ext w0 w' := h.mono fun _ _ ⟨he, hx'⟩ => ⟨he, hx.trans hx'⟩
end calls

/-! ### A guard whose own operation is guarded, however deep -/
def gvs : List (Bool × Bool) → Value → Value
  | [], v => v
  | (b, w) :: r, v => gv b w (gvs r v)
def AllEq : List (Bool × Bool) → Prop
  | [] => True
  | (b, w) :: r => b = w ∧ AllEq r
def allB : List (Bool × Bool) → Bool
  | [] => true
  | (b, w) :: r => (b == w) && allB r
theorem allB_yes : ∀ {cs : List (Bool × Bool)}, allB cs = true → AllEq cs
  | [], _ => trivial
  | (b, w) :: r, h => by
    simp only [allB, Bool.and_eq_true, beq_iff_eq] at h
    exact ⟨h.1, allB_yes h.2⟩
theorem gvs_yes : ∀ {cs : List (Bool × Bool)}, allB cs = true → ∀ v, gvs cs v = v
  | [], _, _ => rfl
  | (b, w) :: r, h, v => by
    simp only [allB, Bool.and_eq_true, beq_iff_eq] at h
    simp only [gvs, gv_yes h.1, gvs_yes h.2]
theorem gvs_no : ∀ {cs : List (Bool × Bool)}, allB cs = false → ∀ v, gvs cs v = undef
  | (b, w) :: r, h, v => by
    simp only [allB, Bool.and_eq_false_iff] at h
    rcases h with h | h
    · simp [gvs, gv, h]
    · simp only [gvs, gvs_no h, gv]; cases (b == w) <;> rfl
theorem allB_snoc (cs : List (Bool × Bool)) (b w : Bool) : allB (cs ++ [(b, w)]) = (allB cs && (b == w)) := by
  induction cs with
  | nil => simp [allB]
  | cons p r ih => simp [allB, ih, Bool.and_assoc]
theorem wanted_guards {n : Nat} {E : Env} {a : Act} (h : Ok n E a) {o : Oper} {ops : Array Oper} {j t : Nat} {cs : List (Bool × Bool)} {y w1 : Bool} (hg : o.guard = some (j, w1)) (hj : (ops[j]?).bind (·.dst) = some t) (ht : look t E = some (gvs cs (.bool y))) :
    Region.wanted o (yielded ops a.tmps) = allB (cs ++ [(y, w1)]) := by
  rw [allB_snoc]
  cases hb : allB cs with
  | true =>
    rw [gvs_yes hb] at ht
    rw [wanted_guard h hg hj ht]; simp
  | false =>
    rw [gvs_no hb] at ht
    have : yielded ops a.tmps j = none := by
      simp [Go.yielded, hj, h.at_ t _ ht, undef]
    simp [Region.wanted, hg, this]
section nested
variable {P : Program} {n : Nat} {ops : Array Oper} {E : Env} {w : World} {o : Oper} {rest : List Oper} {d : Nat} {v : Value} {j t : Nat} {y w1 : Bool}
theorem WL.yldGs {Q : Exit → Act → World → Prop} (cs : List (Bool × Bool)) (hd : o.dst = some d) (hn : d < n) (hg : o.guard = some (j, w1)) (hj : (ops[j]?).bind (·.dst) = some t) (ht : look t E = some (gvs cs (.bool y))) (hy : AllEq (cs ++ [(y, w1)]) → Yld P o n E (· = w) v) (h : WL P n ops Q rest ((d, gvs (cs ++ [(y, w1)]) v) :: E) w) : WL P n ops Q (o :: rest) E w := by
  intro a ha
  refine wpList_step fun K hK => ?_
  rw [wanted_guards ha hg hj ht]
  have hh := h _ (ha.put hn (gvs (cs ++ [(y, w1)]) v))
  cases hc : allB (cs ++ [(y, w1)]) with
  | true =>
    rw [if_pos rfl]
    rw [gvs_yes hc] at hh
    exact wp_of_run (hy (allB_yes hc) a w ha rfl) (hK _ _ (by rw [hd]; exact hh))
  | false =>
    rw [if_neg (by simp)]
    rw [gvs_no hc] at hh
    exact hK _ _ (by rw [hd]; exact hh)
theorem WQ.yldGs {C : World → Prop} {Q : Act → Prop} (cs : List (Bool × Bool)) (hd : o.dst = some d) (hn : d < n) (hg : o.guard = some (j, w1)) (hj : (ops[j]?).bind (·.dst) = some t) (ht : look t E = some (gvs cs (.bool y))) (hy : AllEq (cs ++ [(y, w1)]) → Yld P o n E C v) (h : WQ P n ops C Q rest ((d, gvs (cs ++ [(y, w1)]) v) :: E)) : WQ P n ops C Q (o :: rest) E := by
  intro a ha
  unfold wpQuiet
  rw [wanted_guards ha hg hj ht]
  have hh := h _ (ha.put hn (gvs (cs ++ [(y, w1)]) v))
  cases hc : allB (cs ++ [(y, w1)]) with
  | true =>
    rw [if_pos rfl]
    rw [gvs_yes hc] at hh
    exact ⟨v, fun w hw => quietAt_of_run (hy (allB_yes hc) a w ha hw), by rw [hd]; exact hh⟩
  | false =>
    rw [if_neg (by simp), hd]
    rw [gvs_no hc] at hh
    exact hh
theorem WL.callGs {Q : Exit → Act → World → Prop} {c : Call} {f : FuncId} {args : List Value} (cs : List (Bool × Bool)) (hd : o.dst = some d) (hn : d < n) (hg : o.guard = some (j, w1)) (hj : (ops[j]?).bind (·.dst) = some t) (ht : look t E = some (gvs cs (.bool y))) (ho : o.op = .call c) (hc : c.callee = .value (.func f)) (hf : Has P f)
    (ha : AllEq (cs ++ [(y, w1)]) → evs E c.args.toList = some args) (hk : AllEq (cs ++ [(y, w1)]) → Calls P f args.toArray w fun e w' => e = .returned v ∧ Ext w w') (h : ∀ w', Ext w w' → WL P n ops Q rest ((d, gvs (cs ++ [(y, w1)]) v) :: E) w') : WL P n ops Q (o :: rest) E w := by
  intro a hA
  refine wpList_step fun K hK => ?_
  rw [wanted_guards hA hg hj ht]
  cases hb : allB (cs ++ [(y, w1)]) with
  | true =>
    rw [if_pos rfl]
    refine wp_of_enter (by have := run_call (P := P) (w := w) (fst := #[]) (cap := #[]) hA ho hc rfl hf (ha (allB_yes hb)); simpa using this) (hk (allB_yes hb)) fun e w' hR => ?_
    obtain ⟨he, hx⟩ := hR
    refine ⟨v, he, hK _ _ ?_⟩
    have := h w' hx _ (hA.put hn (gvs (cs ++ [(y, w1)]) v))
    rw [gvs_yes hb] at this
    rw [hd]; exact this
  | false =>
    rw [if_neg (by simp)]
    refine hK _ _ ?_
    have := h w (Ext.refl w) _ (hA.put hn (gvs (cs ++ [(y, w1)]) v))
    rw [gvs_no hb] at this
    rw [hd]; exact this
theorem WQ.callGs {C : World → Prop} {Q : Act → Prop} {c : Call} {f : FuncId} {args : List Value} (cs : List (Bool × Bool)) (hd : o.dst = some d) (hn : d < n) (hg : o.guard = some (j, w1)) (hj : (ops[j]?).bind (·.dst) = some t) (ht : look t E = some (gvs cs (.bool y))) (ho : o.op = .call c) (hc : c.callee = .value (.func f)) (hf : Has P f)
    (ha : AllEq (cs ++ [(y, w1)]) → evs E c.args.toList = some args) (hk : AllEq (cs ++ [(y, w1)]) → ∀ w, C w → Calls P f args.toArray w fun e w' => e = .returned v ∧ C w') (h : WQ P n ops C Q rest ((d, gvs (cs ++ [(y, w1)]) v) :: E)) : WQ P n ops C Q (o :: rest) E := by
  intro a hA
  unfold wpQuiet
  rw [wanted_guards hA hg hj ht]
  have hh := h _ (hA.put hn (gvs (cs ++ [(y, w1)]) v))
  cases hb : allB (cs ++ [(y, w1)]) with
  | true =>
    rw [if_pos rfl]
    rw [gvs_yes hb] at hh
    exact ⟨v, fun w hw => quietAt_of_enter (by have := run_call (P := P) (w := w) (fst := #[]) (cap := #[]) hA ho hc rfl hf (ha (allB_yes hb)); simpa using this) (hk (allB_yes hb) w hw), by rw [hd]; exact hh⟩
  | false =>
    rw [if_neg (by simp), hd]
    rw [gvs_no hb] at hh
    exact hh
end nested

/-- A region that draws its order, whose operations are quiet while the world grows. -/
theorem WC.regionD {P : Program} {n : Nat} {Q : Exit → Act → World → Prop} {E : Env} {w : World} {id : Nat} {l l' : List Oper} (hm : P.follows .mixedOrders = true) (hB : Region.lexB .any l.toArray = true) (hl : l = l')
    (h : WQ P n l.toArray (Ext w) (fun a' => ∀ w', Ext w w' → Q .normal a' w') l' E) : WC P n (.region id l.toArray true) Q E w := by
  subst hl
  intro a ha
  exact wp_region_quiet hm hB ((Ext.refl w).drawn (Nat.le_succ _)) (by simpa using h a ha)
theorem WQ.done {P : Program} {n : Nat} {ops : Array Oper} {Q : Exit → Act → World → Prop} {E : Env} {w : World} (h : ∀ w', Ext w w' → WK n (Q .normal) E w') : WQ P n ops (Ext w) (fun a' => ∀ w', Ext w w' → Q .normal a' w') [] E :=
  WQ.nil fun a ha w' hw => h w' hw a ha
end Go.Eng
