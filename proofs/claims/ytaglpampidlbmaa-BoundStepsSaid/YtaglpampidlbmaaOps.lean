/- The walker's rules for single operations, over any program: what each operation yields, what it does to memory.
   Conditions: none; nothing here speaks of a given program. -/
import Derived.Test.YtaglpampidlbmaaEng
import Derived.Laws.StructEq
namespace Go.Eng
open Go Go.RowKit

/-- What the table says of a type: its zero, how many cells, how many bytes. -/
def TI (P : Program) (t : TypeId) (z : Value) (size bytes : Nat) : Prop := ∃ i, P.info? t = some i ∧ i.zero = some z ∧ i.size = size ∧ i.bytes = bytes
theorem TI.mk {P : Program} {t : TypeId} {z : Value} {size bytes : Nat} (h : (P.info? t).map (fun i => (i.zero, i.size, i.bytes)) = some (some z, size, bytes)) : TI P t z size bytes := by
  cases hi : P.info? t with
  | none => rw [hi] at h; cases h
  | some i =>
    rw [hi] at h
    simp only [Option.map_some, Option.some.injEq, Prod.mk.injEq] at h
    exact ⟨i, hi, h.1, h.2.1, h.2.2⟩
theorem TI.sizeOf {P : Program} {t : TypeId} {z : Value} {size bytes : Nat} (h : TI P t z size bytes) (w : World) : (sizeOf t).run P w = .ok size w := by
  obtain ⟨i, h1, _, h3, _⟩ := h
  simp [Go.sizeOf, typeInfo, h1, h3]
theorem TI.zeroValue {P : Program} {t : TypeId} {z : Value} {size bytes : Nat} (h : TI P t z size bytes) (w : World) : (zeroValue t).run P w = .ok z w := by
  obtain ⟨i, h1, h2, _, _⟩ := h
  simp [Go.zeroValue, typeInfo, h1, h2]
def aggD : TypeDesc → Bool
  | .struct _ | .array _ _ => true
  | _ => false
theorem run_isAgg {P : Program} {t : TypeId} {D : TypeDesc} (h : P.underlying t = some D) (w : World) : (isAgg t).run P w = .ok (aggD D) w := by
  unfold isAgg
  simp only [Sem.run_bind, run_underlying h, Result.andThen_ok]
  cases D <;> rfl

/-! ### Small words for the walks -/
theorem wrap_i64 {x : Int} (h : -9223372036854775808 ≤ x ∧ x ≤ 9223372036854775807) : IntKind.i64.wrap x = x := IntWalk.i64_in x h
theorem wrap_u64 {x : Int} (h : 0 ≤ x ∧ x ≤ 18446744073709551615) : IntKind.u64.wrap x = x := by rw [IntKind.wrap_u64]; omega
theorem wrap_u8 {x : Int} (h : 0 ≤ x ∧ x ≤ 255) : IntKind.u8.wrap x = x := IntWalk.u8_in x h
theorem wrap_quo {a b : Int} (ha : 0 ≤ a) (ha' : a ≤ 9223372036854775807) (hb : 0 < b) : IntKind.i64.wrap (a.tdiv b) = a / b := by
  rw [Int.tdiv_eq_ediv_of_nonneg ha]
  have h1 : 0 ≤ a / b := Int.ediv_nonneg ha (by omega)
  have h2 : a / b ≤ a := Int.ediv_le_self _ ha
  exact wrap_i64 (by omega)
theorem wrap_quo_u64 {a b : Int} (ha : 0 ≤ a) (ha' : a ≤ 18446744073709551615) (hb : 0 < b) : IntKind.u64.wrap (a.tdiv b) = a / b := by
  rw [Int.tdiv_eq_ediv_of_nonneg ha]
  have h1 : 0 ≤ a / b := Int.ediv_nonneg ha (by omega)
  have h2 : a / b ≤ a := Int.ediv_le_self _ ha
  exact wrap_u64 (by omega)
theorem shr32 {a : Int} (h : 0 ≤ a) : a.fdiv (2 ^ min (32 : Int).toNat IntKind.u64.bits) = a / 4294967296 := by
  rw [show min (32 : Int).toNat IntKind.u64.bits = 32 from rfl, Int.fdiv_eq_ediv_of_nonneg _ (by decide)]; rfl
theorem wm {a b p : Int} (h : a * b = p) (hp : 0 ≤ p ∧ p ≤ 18446744073709551615) : IntKind.u64.wrap (a * b) = p := by rw [h]; exact wrap_u64 hp
theorem mul_bound {a b m k : Int} (ha : 0 ≤ a ∧ a ≤ m) (hb : 0 ≤ b ∧ b ≤ k) : 0 ≤ a * b ∧ a * b ≤ m * k :=
  ⟨Int.mul_nonneg ha.1 hb.1, Int.mul_le_mul ha.2 hb.2 hb.1 (by omega)⟩
theorem rem_pos {a b : Int} (ha : 0 ≤ a) : a.tmod b = a % b := Int.tmod_eq_emod_of_nonneg ha
theorem bt {p : Prop} [Decidable p] (h : p) : Value.bool (decide p) = .bool true := by rw [decide_eq_true h]
theorem bf {p : Prop} [Decidable p] (h : ¬p) : Value.bool (decide p) = .bool false := by rw [decide_eq_false h]
theorem Yld.cast {P : Program} {o : Oper} {n : Nat} {E : Env} {C : World → Prop} {v v' : Value} (h : Yld P o n E C v) (e : v = v') : Yld P o n E C v' := e ▸ h
theorem evs_nil {E : Env} : evs E [] = some [] := rfl
theorem evs_cons {E : Env} {x : Operand} {r : List Operand} {v : Value} {vs : List Value} (h : ev E x = some v) (hr : evs E r = some vs) : evs E (x :: r) = some (v :: vs) := by simp [evs, h, hr]
def evp (E : Env) : List (Nat × Operand) → Option (List (Nat × Value))
  | [] => some []
  | (i, x) :: r => match ev E x, evp E r with
    | some v, some vs => some ((i, v) :: vs)
    | _, _ => none
theorem evp_nil {E : Env} : evp E [] = some [] := rfl
theorem evp_cons {E : Env} {i : Nat} {x : Operand} {r : List (Nat × Operand)} {v : Value} {vs : List (Nat × Value)} (h : ev E x = some v) (hr : evp E r = some vs) : evp E ((i, x) :: r) = some ((i, v) :: vs) := by simp [evp, h, hr]
theorem Ok.evp {n : Nat} {E : Env} {a : Act} (h : Ok n E a) : ∀ {l : List (Nat × Operand)} {vs : List (Nat × Value)}, Eng.evp E l = some vs → l.map (fun p => (p.1, a.eval p.2)) = vs
  | [], vs, hv => by simp [Eng.evp] at hv; subst hv; rfl
  | (i, x) :: r, vs, hv => by
    simp only [Eng.evp] at hv
    split at hv
    · rename_i v us h1 h2
      injection hv with hv; subst hv
      simp [h.ev h1, h.evp h2]
    · cases hv
section
variable {P : Program} {n : Nat} {ops : Array Oper} {E : Env} {w : World} {o : Oper} {rest : List Oper} {d : Nat}
theorem WL.genI {Q : Exit → Act → World → Prop} {k : IntKind} {e : Int} (hd : o.dst = some d) (hn : d < n) (hg : o.guard = none) (hy : Yld P o n E (· = w) (.int k e)) (h : ∀ r, e = r → WL P n ops Q rest ((d, .int k r) :: E) w) : WL P n ops Q (o :: rest) E w := WL.yld hd hn hg hy (h e rfl)
theorem WL.genB {Q : Exit → Act → World → Prop} {e : Bool} (hd : o.dst = some d) (hn : d < n) (hg : o.guard = none) (hy : Yld P o n E (· = w) (.bool e)) (h : ∀ r, e = r → WL P n ops Q rest ((d, .bool r) :: E) w) : WL P n ops Q (o :: rest) E w := WL.yld hd hn hg hy (h e rfl)
end
def lget : List Value → Nat → Option Value
  | [], _ => none
  | v :: _, 0 => some v
  | _ :: r, i + 1 => lget r i
theorem lget_eq : ∀ {vs : List Value} {i : Nat} {v : Value}, lget vs i = some v → vs[i]? = some v
  | [], _, _, h => by cases h
  | u :: _, 0, _, h => by simpa [lget] using h
  | _ :: r, i + 1, _, h => by simpa using lget_eq (vs := r) (by simpa [lget] using h)
theorem ne_new {w : World} {g g' : Nat} {t : TypeId} {cs : List Value} (h : Blk w g t cs) (e : g' = w.heap.size) : g ≠ g' := by have := h.lt; omega
theorem own_new {W w : World} {g : Nat} (x : Ext W w) (e : g = w.heap.size) : W.heap.size ≤ g := by have := x.size; omega
section
variable {w : World} {g : Nat} {t : TypeId} {cs : List Value}
theorem add_blk (g off j : Nat) : (⟨g, off, none⟩ : Addr).add j = ⟨g, off + j, none⟩ := by unfold Addr.add; by_cases h0 : j = 0 <;> simp [h0]
theorem Blk.at_eq (h : Blk w g t cs) {i : Nat} {v : Value} (hv : cs[i]? = some v) : ∀ w', w' = w → w'.cell? ⟨g, i, none⟩ = some v := by rintro _ rfl; exact h.cell hv
theorem Blk.at_ext (h : Blk w g t cs) {i : Nat} {v : Value} (hv : cs[i]? = some v) : ∀ w', Ext w w' → w'.cell? ⟨g, i, none⟩ = some v := fun _ x => (h.ext x).cell hv
theorem Blk.row_eq (h : Blk w g t cs) : ∀ w', w' = w → ∀ j u, cs[j]? = some u → w'.cell? ((⟨g, 0, none⟩ : Addr).add j) = some u := by
  rintro _ rfl j u hu
  rw [add_blk, Nat.zero_add]; exact h.cell hu
theorem Blk.row_ext (h : Blk w g t cs) : ∀ w', Ext w w' → ∀ j u, cs[j]? = some u → w'.cell? ((⟨g, 0, none⟩ : Addr).add j) = some u := fun _ x => (h.ext x).row_eq _ rfl
theorem Blk.part_eq (h : Blk w g t cs) {off : Nat} {sub : List Value} (hs : (cs.drop off).take sub.length = sub) : ∀ w', w' = w → ∀ j u, sub[j]? = some u → w'.cell? ((⟨g, off, none⟩ : Addr).add j) = some u := by
  rintro _ rfl j u hu
  have hj : j < sub.length := (List.getElem?_eq_some_iff.1 hu).1
  rw [add_blk]
  refine h.cell ?_
  rw [← hs, List.getElem?_take_of_lt hj, List.getElem?_drop] at hu
  exact hu
theorem Blk.part_ext (h : Blk w g t cs) {off : Nat} {sub : List Value} (hs : (cs.drop off).take sub.length = sub) : ∀ w', Ext w w' → ∀ j u, sub[j]? = some u → w'.cell? ((⟨g, off, none⟩ : Addr).add j) = some u := fun _ x => (h.ext x).part_eq hs _ rfl
end

/-- The cells behind a write of several. -/
def setAll : List Value → Nat → List Value → List Value
  | cs, _, [] => cs
  | cs, i, v :: r => setAll (cs.set i v) (i + 1) r


def cellsL : Value → List Value
  | .agg cs => cs.toList
  | v => [v]
theorem cellsL_eq (v : Value) : v.cells = (cellsL v).toArray := by cases v <;> simp [Value.cells, cellsL]
theorem foldl_setAll (off : Nat) : ∀ (vs : List Value) (k : Nat) (cs : List Value), (vs.zipIdx k).foldl (fun (a : Array Value) p => a.setIfInBounds (off + p.2) p.1) cs.toArray = (setAll cs (off + k) vs).toArray
  | [], _, _ => rfl
  | v :: r, k, cs => by
    simp only [List.zipIdx_cons, List.foldl_cons, setAll]
    rw [show (cs.toArray.setIfInBounds (off + k) v) = (cs.set (off + k) v).toArray from by simp]
    rw [foldl_setAll off r (k + 1) (cs.set (off + k) v)]
    rfl
theorem length_setAll : ∀ (vs : List Value) (i : Nat) (cs : List Value), (setAll cs i vs).length = cs.length
  | [], _, _ => rfl
  | v :: r, i, cs => by simp only [setAll]; rw [length_setAll r]; simp
def fillP (place : Nat → Option (Nat × Nat)) : List Value → List (Nat × Value) → Option (List Value)
  | cs, [] => some cs
  | cs, (i, v) :: r => match place i with
    | none => none
    | some (off, sz) => bif Nat.beq (cellsL v).length sz && Nat.ble (off + sz) cs.length then fillP place (setAll cs off (cellsL v)) r else none
theorem fill_eq (place : Nat → Option (Nat × Nat)) : ∀ (ps : List (Nat × Value)) (cs cs' : List Value), fillP place cs ps = some cs' → Instr.fill place cs.toArray ps = some cs'.toArray
  | [], cs, cs', h => by simp [fillP] at h; subst h; rfl
  | (i, v) :: r, cs, cs', h => by
    simp only [fillP] at h
    cases hp : place i with
    | none => rw [hp] at h; cases h
    | some q =>
      obtain ⟨off, sz⟩ := q
      rw [hp] at h
      dsimp only at h
      cases hc : (Nat.beq (cellsL v).length sz && Nat.ble (off + sz) cs.length) with
      | false => rw [hc] at h; cases h
      | true =>
        rw [hc] at h
        simp only [cond_true] at h
        simp only [Bool.and_eq_true] at hc
        have h1 := Nat.eq_of_beq_eq_true hc.1
        have h2 := Nat.le_of_ble_eq_true hc.2
        have hs : v.cells.size = sz := by rw [cellsL_eq]; simpa using h1
        unfold Instr.fill
        simp only [hp]
        rw [if_neg (by simp [hs]; omega)]
        have hf : (v.cells.zipIdx.foldl (fun cs x => cs.setIfInBounds (off + x.snd) x.fst) cs.toArray) = (setAll cs off (cellsL v)).toArray := by
          rw [cellsL_eq, show off = off + 0 from rfl, ← foldl_setAll off (cellsL v) 0 cs]
          simp
        rw [hf]
        exact fill_eq place r _ cs' h
def fillL (pl : List (Nat × Nat)) : List Value → List (Nat × Value) → Option (List Value) := fillP (fun i => pl[i]?)
/-- What the table says of a struct's places. -/
def PL (P : Program) (t : TypeId) (zero : List Value) (pl : List (Nat × Nat)) : Prop := (∃ it, P.info? t = some it ∧ it.zero = some (.agg zero.toArray)) ∧ ∃ fs, P.underlying t = some (.struct fs) ∧ fs.toList.mapM (fun f => (P.info? f.type).map fun i => (f.offset, i.size)) = some pl
theorem PL.mk {P : Program} {t : TypeId} {zero : List Value} {sz by' : Nat} {fs : Array Field} {pl : List (Nat × Nat)} (h : TI P t (.agg zero.toArray) sz by') (hU : P.underlying t = some (.struct fs)) (hp : fs.toList.mapM (fun f => (P.info? f.type).map fun i => (f.offset, i.size)) = some pl) : PL P t zero pl := by
  obtain ⟨i, h1, h2, _, _⟩ := h
  exact ⟨⟨i, h1, h2⟩, fs, hU, hp⟩
theorem PL.built {P : Program} {t : TypeId} {zero : List Value} {pl : List (Nat × Nat)} (h : PL P t zero pl) {ps : List (Nat × Value)} {cs : List Value} (hf : fillL pl zero ps = some cs) : P.built t ps = some cs.toArray := by
  obtain ⟨⟨i, h1, h2⟩, fs, h3, h4⟩ := h
  unfold Program.built
  simp only [h1, h2, h3, h4]
  have := fill_eq (fun i => pl[i]?) ps zero cs hf
  simpa [Value.cells] using this

namespace Y
section
variable {P : Program} {o : Oper} {n : Nat} {E : Env} {C : World → Prop} {v : Value}

theorem move {x : Operand} (ho : o.op = .move x) (hx : ev E x = some v) : Yld P o n E C v := by
  intro a w ha _; simp [execOp, ho, ha.ev hx]
theorem assign {x : Operand} (ho : o.op = .assign x) (hx : ev E x = some v) : Yld P o n E C v := by
  intro a w ha _; simp [execOp, ho, ha.ev hx]
theorem pickT {c a b : Operand} (ho : o.op = .pick c a b) (hc : ev E c = some (.bool true)) (ha : ev E a = some v) : Yld P o n E C v := by
  intro A w hA _; simp [execOp, ho, hA.ev hc, hA.ev ha, asBool]
theorem pickF {c a b : Operand} (ho : o.op = .pick c a b) (hc : ev E c = some (.bool false)) (hb : ev E b = some v) : Yld P o n E C v := by
  intro A w hA _; simp [execOp, ho, hA.ev hc, hA.ev hb, asBool]
theorem and {c a b : Operand} {x y : Bool} (ho : o.op = .pick c a b) (hc : ev E c = some (.bool x)) (ha : ev E a = some (gv x true (.bool y))) (hb : ev E b = some (.bool false)) : Yld P o n E C (.bool (x && y)) := by
  intro A w hA _
  have ha' := hA.ev ha
  cases x with
  | true => rw [gv_yes rfl] at ha'; simp [execOp, ho, hA.ev hc, ha', asBool]
  | false => simp [execOp, ho, hA.ev hc, hA.ev hb, asBool]
theorem or {c a b : Operand} {x y : Bool} (ho : o.op = .pick c a b) (hc : ev E c = some (.bool x)) (ha : ev E a = some (.bool true)) (hb : ev E b = some (gv x false (.bool y))) : Yld P o n E C (.bool (x || y)) := by
  intro A w hA _
  have hb' := hA.ev hb
  cases x with
  | true => simp [execOp, ho, hA.ev hc, hA.ev ha, asBool]
  | false => rw [gv_yes rfl] at hb'; simp [execOp, ho, hA.ev hc, hb', asBool]
theorem not {x : Operand} {t : TypeId} {b : Bool} (ho : o.op = .unOp .not t x) (hx : ev E x = some (.bool b)) : Yld P o n E C (.bool (!b)) := by
  intro a w ha _; simp [execOp, ho, ha.ev hx, Op.unary]
theorem neg {x : Operand} {t : TypeId} {k : IntKind} {a r : Int} (ho : o.op = .unOp .neg t x) (hx : ev E x = some (.int k a)) (hw : k.wrap (-a) = r) : Yld P o n E C (.int k r) := by
  intro A w hA _
  simp [execOp, ho, hA.ev hx, Op.unary, Op.intArith, hw]

theorem eqGuard_int (op : BinOp) (t : TypeId) (x y : Operand) (k k' : IntKind) (a b : Int) (w : World) : (eqGuard op t x y (.int k a) (.int k' b)).run P w = .ok () w := by
  unfold eqGuard; split <;> rfl
theorem int2 {op : BinOp} {x y : Operand} {t t' : TypeId} {k : IntKind} {a b : Int} (ho : o.op = .binOp op t x y t') (hx : ev E x = some (.int k a)) (hy : ev E y = some (.int k b))
    (hr : ∀ w, (binOp op t (.int k a) (.int k b)).run P w = .ok v w) : Yld P o n E C v := by
  intro A w hA _
  simp only [execOp, ho, hA.ev hx, hA.ev hy, Sem.run_bind, eqGuard_int, Result.andThen_ok, hr, Sem.run_pure]
theorem add {x y : Operand} {t t' : TypeId} {k : IntKind} {a b r : Int} (ho : o.op = .binOp .add t x y t') (hx : ev E x = some (.int k a)) (hy : ev E y = some (.int k b)) (hw : k.wrap (a + b) = r) : Yld P o n E C (.int k r) :=
  int2 ho hx hy fun w => by simp [binOp, Op.intArith, hw]
theorem sub {x y : Operand} {t t' : TypeId} {k : IntKind} {a b r : Int} (ho : o.op = .binOp .sub t x y t') (hx : ev E x = some (.int k a)) (hy : ev E y = some (.int k b)) (hw : k.wrap (a - b) = r) : Yld P o n E C (.int k r) :=
  int2 ho hx hy fun w => by simp [binOp, Op.intArith, hw]
theorem mul {x y : Operand} {t t' : TypeId} {k : IntKind} {a b r : Int} (ho : o.op = .binOp .mul t x y t') (hx : ev E x = some (.int k a)) (hy : ev E y = some (.int k b)) (hw : k.wrap (a * b) = r) : Yld P o n E C (.int k r) :=
  int2 ho hx hy fun w => by simp [binOp, Op.intArith, hw]
theorem quo {x y : Operand} {t t' : TypeId} {k : IntKind} {a b r : Int} (ho : o.op = .binOp .quo t x y t') (hx : ev E x = some (.int k a)) (hy : ev E y = some (.int k b)) (h0 : b ≠ 0) (hw : k.wrap (a.tdiv b) = r) : Yld P o n E C (.int k r) :=
  int2 ho hx hy fun w => by simp [binOp, Op.intDiv, h0, hw]
theorem rem {x y : Operand} {t t' : TypeId} {k : IntKind} {a b r : Int} (ho : o.op = .binOp .rem t x y t') (hx : ev E x = some (.int k a)) (hy : ev E y = some (.int k b)) (h0 : b ≠ 0) (hw : a.tmod b = r) : Yld P o n E C (.int k r) :=
  int2 ho hx hy fun w => by simp [binOp, Op.intDiv, h0, hw]
theorem lss {x y : Operand} {t t' : TypeId} {k : IntKind} {a b : Int} (ho : o.op = .binOp .lss t x y t') (hx : ev E x = some (.int k a)) (hy : ev E y = some (.int k b)) : Yld P o n E C (.bool (decide (a < b))) :=
  int2 ho hx hy fun w => by simp [binOp, Op.intCmp]
theorem leq {x y : Operand} {t t' : TypeId} {k : IntKind} {a b : Int} (ho : o.op = .binOp .leq t x y t') (hx : ev E x = some (.int k a)) (hy : ev E y = some (.int k b)) : Yld P o n E C (.bool (decide (a ≤ b))) :=
  int2 ho hx hy fun w => by simp [binOp, Op.intCmp]
theorem gtr {x y : Operand} {t t' : TypeId} {k : IntKind} {a b : Int} (ho : o.op = .binOp .gtr t x y t') (hx : ev E x = some (.int k a)) (hy : ev E y = some (.int k b)) : Yld P o n E C (.bool (decide (b < a))) :=
  int2 ho hx hy fun w => by simp [binOp, Op.intCmp]
theorem geq {x y : Operand} {t t' : TypeId} {k : IntKind} {a b : Int} (ho : o.op = .binOp .geq t x y t') (hx : ev E x = some (.int k a)) (hy : ev E y = some (.int k b)) : Yld P o n E C (.bool (decide (b ≤ a))) :=
  int2 ho hx hy fun w => by simp [binOp, Op.intCmp]
theorem eql {x y : Operand} {t t' : TypeId} {k : IntKind} {a b : Int} (ho : o.op = .binOp .eql t x y t') (hx : ev E x = some (.int k a)) (hy : ev E y = some (.int k b)) : Yld P o n E C (.bool (a == b)) :=
  int2 ho hx hy fun w => by simp [binOp, Op.intCmp]
theorem neq {x y : Operand} {t t' : TypeId} {k : IntKind} {a b : Int} (ho : o.op = .binOp .neq t x y t') (hx : ev E x = some (.int k a)) (hy : ev E y = some (.int k b)) : Yld P o n E C (.bool (!(a == b))) :=
  int2 ho hx hy fun w => by simp [binOp, Op.intCmp, bne]
/-- Both sides Bools. -/
theorem eqlB {x y : Operand} {t t' : TypeId} {a b : Bool} (ho : o.op = .binOp .eql t x y t') (hU : P.underlying t = some .bool) (hx : ev E x = some (.bool a)) (hy : ev E y = some (.bool b)) : Yld P o n E C (.bool (a == b)) := by
  intro A w hA _
  have hg : (eqGuard .eql t x y (.bool a) (.bool b)).run P w = .ok () w := rfl
  have hr : (Op.equalIn (9999 + 1) t (.bool a) (.bool b)).run P w = .ok (a == b) w := run_equalIn_bool' w 9999 t a b hU
  simp [execOp, ho, hA.ev hx, hA.ev hy, hg, binOp, Op.equal, Op.maxDepth, hr]
theorem neqB {x y : Operand} {t t' : TypeId} {a b : Bool} (ho : o.op = .binOp .neq t x y t') (hU : P.underlying t = some .bool) (hx : ev E x = some (.bool a)) (hy : ev E y = some (.bool b)) : Yld P o n E C (.bool (!(a == b))) := by
  intro A w hA _
  have hg : (eqGuard .neq t x y (.bool a) (.bool b)).run P w = .ok () w := rfl
  have hr : (Op.equalIn (9999 + 1) t (.bool a) (.bool b)).run P w = .ok (a == b) w := run_equalIn_bool' w 9999 t a b hU
  simp [execOp, ho, hA.ev hx, hA.ev hy, hg, binOp, Op.equal, Op.maxDepth, hr]
/-- Both sides structs or arrays: 'hq' says what '==' gives, 'hm' that the type holds no interface with methods. -/
theorem eqlS {x y : Operand} {t t' : TypeId} {xs ys : Array Value} {r : Bool} (ho : o.op = .binOp .eql t x y t') (hm : P.eqGuardType P.depth t = false) (hq : ∀ w, (Op.equalIn 10000 t (.agg xs) (.agg ys)).run P w = .ok r w) (hx : ev E x = some (.agg xs)) (hy : ev E y = some (.agg ys)) : Yld P o n E C (.bool r) := by
  intro A w hA _
  simp [execOp, ho, hA.ev hx, hA.ev hy, run_eqGuard_agg (hm := hm), run_eql_struct, hq]
theorem neqS {x y : Operand} {t t' : TypeId} {xs ys : Array Value} {r : Bool} (ho : o.op = .binOp .neq t x y t') (hm : P.eqGuardType P.depth t = false) (hq : ∀ w, (Op.equalIn 10000 t (.agg xs) (.agg ys)).run P w = .ok r w) (hx : ev E x = some (.agg xs)) (hy : ev E y = some (.agg ys)) : Yld P o n E C (.bool (!r)) := by
  intro A w hA _
  simp [execOp, ho, hA.ev hx, hA.ev hy, run_eqGuard_agg (hm := hm), run_neq_struct, hq]
theorem andM {x y : Operand} {t t' : TypeId} {a : Int} (ho : o.op = .binOp .and t x y t') (hx : ev E x = some (.int .u64 a)) (hy : ev E y = some (.int .u64 4294967295)) (h : 0 ≤ a ∧ a ≤ 18446744073709551615) : Yld P o n E C (.int .u64 (a % 4294967296)) :=
  int2 ho hx hy fun w => by
    obtain ⟨m, rfl⟩ := Int.eq_ofNat_of_zero_le h.1
    have e := u64_and_nat m 4294967295 (by omega) (by omega)
    rw [nat_mask32] at e
    simp only [binOp, ne_eq, not_true_eq_false, if_false, Op.intBits]
    show Result.ok (Value.int .u64 (bits .and .u64 (m : Int) 4294967295)) w = _
    rw [show (4294967295 : Int) = ((4294967295 : Nat) : Int) from rfl, e]
    simp
theorem shr {x y : Operand} {t t' : TypeId} {k yk : IntKind} {a c r : Int} (ho : o.op = .binOp .shr t x y t') (hx : ev E x = some (.int k a)) (hy : ev E y = some (.int yk c)) (h0 : 0 ≤ c) (hw : a.fdiv (2 ^ min c.toNat k.bits) = r) : Yld P o n E C (.int k r) := by
  intro A w hA _
  have hn : ¬ c < 0 := by omega
  simp only [execOp, ho, hA.ev hx, hA.ev hy, Sem.run_bind, eqGuard_int, Result.andThen_ok, binOp, Op.shift, hn, if_false, hw, Sem.run_pure]
theorem shl {x y : Operand} {t t' : TypeId} {k yk : IntKind} {a c r : Int} (ho : o.op = .binOp .shl t x y t') (hx : ev E x = some (.int k a)) (hy : ev E y = some (.int yk c)) (h0 : 0 ≤ c) (hw : k.wrap (a * 2 ^ min c.toNat k.bits) = r) : Yld P o n E C (.int k r) := by
  intro A w hA _
  have hn : ¬ c < 0 := by omega
  simp only [execOp, ho, hA.ev hx, hA.ev hy, Sem.run_bind, eqGuard_int, Result.andThen_ok, binOp, Op.shift, hn, if_false, hw, Sem.run_pure]
theorem eqlStr {x y : Operand} {t t' : TypeId} {a b : ByteArray} (ho : o.op = .binOp .eql t x y t') (hx : ev E x = some (.string a)) (hy : ev E y = some (.string b)) : Yld P o n E C (.bool (a == b)) := by
  intro A w hA _
  have hg : (eqGuard .eql t x y (.string a) (.string b)).run P w = .ok () w := rfl
  simp [execOp, ho, hA.ev hx, hA.ev hy, hg, binOp, Op.stringOp, beq_toListBytes]
theorem neqStr {x y : Operand} {t t' : TypeId} {a b : ByteArray} (ho : o.op = .binOp .neq t x y t') (hx : ev E x = some (.string a)) (hy : ev E y = some (.string b)) : Yld P o n E C (.bool (!(a == b))) := by
  intro A w hA _
  have hg : (eqGuard .neq t x y (.string a) (.string b)).run P w = .ok () w := rfl
  simp [execOp, ho, hA.ev hx, hA.ev hy, hg, binOp, Op.stringOp, beq_toListBytes]
theorem extract {x : Operand} {i : Nat} {vs : List Value} (ho : o.op = .extract x i) (hx : ev E x = some (.tuple vs.toArray)) (hv : lget vs i = some v) : Yld P o n E C v := by
  intro A w hA _
  have h : vs.toArray[i]? = some v := by simpa using lget_eq hv
  simp only [execOp, ho, hA.ev hx, Instr.extract, h, Sem.run_bind, Sem.run_pure, Result.andThen_ok]
theorem convInt {x : Operand} {s t : TypeId} {k k' : IntKind} {a r : Int} {D : TypeDesc} (ho : o.op = .convert s t x) (hs : P.underlying s = some D) (ht : P.underlying t = some (.int k')) (hx : ev E x = some (.int k a)) (hw : k'.wrap a = r) : Yld P o n E C (.int k' r) := by
  intro A w hA _; simp [execOp, ho, hA.ev hx, convert, run_underlying hs, run_underlying ht, Conv.intToInt, hw]
theorem func {fn : Fn} {first captured : Array Operand} {fs cs : List Value} (ho : o.op = .makeFunc fn first captured) (hf : evs E first.toList = some fs) (hc : evs E captured.toList = some cs) : Yld P o n E C (.func fn fs.toArray cs.toArray) := by
  intro A w hA _
  have h1 : first.map A.eval = fs.toArray := by rw [← hA.evs hf, ← List.map_toArray]
  have h2 : captured.map A.eval = cs.toArray := by rw [← hA.evs hc, ← List.map_toArray]
  simp [execOp, ho, Instr.makeFunc, h1, h2]

/-! addresses and loads -/
theorem fieldAddr {x : Operand} {t i g off : Nat} {fs : Array Field} {f : Field} {z : Value} {sz by' : Nat} (ho : o.op = .fieldAddr t x i) (hU : P.underlying t = some (.struct fs)) (hf : fs[i]? = some f) (hT : TI P f.type z sz by') (hz : sz ≠ 0)
    (hx : ev E x = some (.pointer (some ⟨g, off, none⟩))) : Yld P o n E C (.pointer (some ⟨g, off + f.offset, none⟩)) := by
  intro A w hA _
  have h1 : (fieldPlace ⟨g, off, none⟩ f).run P w = .ok ⟨g, off + f.offset, none⟩ w := by
    simp only [fieldPlace, Sem.run_bind, hT.sizeOf, Result.andThen_ok, hz, if_false, Sem.run_pure, Addr.add]
    by_cases h0 : f.offset = 0 <;> simp [h0]
  simp [execOp, ho, hA.ev hx, Instr.fieldAt, Instr.sureAddr, run_underlying hU, hf, h1]
/-- .. at an address that is a letter. -/
theorem fieldAddrA {x : Operand} {t i : Nat} {ad : Addr} {fs : Array Field} {f : Field} {z : Value} {sz by' : Nat} (ho : o.op = .fieldAddr t x i) (hU : P.underlying t = some (.struct fs)) (hf : fs[i]? = some f) (hT : TI P f.type z sz by') (hz : sz ≠ 0)
    (hx : ev E x = some (.pointer (some ad))) : Yld P o n E C (.pointer (some (ad.add f.offset))) := by
  intro A w hA _
  have h1 : (fieldPlace ad f).run P w = .ok (ad.add f.offset) w := by
    simp only [fieldPlace, Sem.run_bind, hT.sizeOf, Result.andThen_ok, hz, if_false, Sem.run_pure]
  simp [execOp, ho, hA.ev hx, Instr.fieldAt, Instr.sureAddr, run_underlying hU, hf, h1]
theorem indexArr {x y : Operand} {t e m g off : Nat} {k : IntKind} {i : Nat} {z : Value} {sz by' : Nat} (ho : o.op = .indexAddr t x y) (hU : P.underlying t = some (.array m e)) (hT : TI P e z sz by') (hx : ev E x = some (.pointer (some ⟨g, off, none⟩))) (hy : ev E y = some (.int k (i : Int))) (hi : i < m) :
    Yld P o n E C (.pointer (some ⟨g, off + i * sz, none⟩)) := by
  intro A w hA _
  have h1 : (⟨g, off, none⟩ : Addr).add (i * sz) = ⟨g, off + i * sz, none⟩ := add_blk g off (i * sz)
  have h2 : (0 : Int) ≤ (i : Int) ∧ (i : Int) < (m : Int) := by omega
  simp [execOp, ho, hA.ev hx, hA.ev hy, Instr.indexAt, Instr.sureAddr, asIntOf, run_underlying hU, hT.sizeOf, h2, h1]
  intro hh; omega
theorem load1 {x : Operand} {t : TypeId} {D : TypeDesc} {ad : Addr} (ho : o.op = .load t x) (hU : P.underlying t = some D) (hD : aggD D = false) (hx : ev E x = some (.pointer (some ad))) (hc : ∀ w, C w → w.cell? ad = some v) : Yld P o n E C v := by
  intro A w hA hw
  simp [execOp, ho, hA.ev hx, Instr.loadAt, Instr.sureAddr, loadVar, run_isAgg hU, hD, hc w hw]
theorem loadS {x : Operand} {t : TypeId} {D : TypeDesc} {ad : Addr} {cs : List Value} {z : Value} {by' : Nat} (ho : o.op = .load t x) (hU : P.underlying t = some D) (hD : aggD D = true) (hT : TI P t z cs.length by') (hx : ev E x = some (.pointer (some ad)))
    (hc : ∀ w, C w → ∀ j u, cs[j]? = some u → w.cell? (ad.add j) = some u) : Yld P o n E C (.agg cs.toArray) := by
  intro A w hA hw
  have h1 := run_loadCells_list (P := P) (w := w) ad cs (hc w hw)
  simp [execOp, ho, hA.ev hx, Instr.loadAt, Instr.sureAddr, loadVar, run_isAgg hU, hD, hT.sizeOf, h1]
theorem build {t : TypeId} {parts : Array (Nat × Operand)} {cells : List Value} {ps : List (Nat × Value)} {zero : List Value} {pl : List (Nat × Nat)} (ho : o.op = .build t parts) (hPL : PL P t zero pl) (hp : evp E parts.toList = some ps) (hb : fillL pl zero ps = some cells) : Yld P o n E C (.agg cells.toArray) := by
  intro A w hA _
  have h2 := run_build (P := P) w t ps.toArray cells.toArray (by simpa using hPL.built hb)
  have h3 : (parts.map fun x => (x.fst, A.eval x.snd)) = ps.toArray := by
    rw [← hA.evp hp, ← List.map_toArray]
  simp [execOp, ho, h3, h2]
end
end Y

/-! ### Builtins that only compute -/
theorem run_builtin {P : Program} {n : Nat} {E : Env} {a : Act} {w : World} {o : Oper} {c : Call} {b : Builtin} {args : List Value} (h : Ok n E a) (ho : o.op = .call c) (hc : c.callee = .builtin b) (ha : evs E c.args.toList = some args) :
    ∃ cs : Array Bool, (execOp a.eval o).run P w = (builtin b c.argTypes o.type cs args.toArray).run P w := by
  have h1 : c.args.map a.eval = args.toArray := by rw [← h.evs ha, ← List.map_toArray]
  refine ⟨c.args.map fun | .const _ => true | _ => false, ?_⟩
  simp only [execOp, ho, resolve, hc, h1, Sem.run_bind, Sem.run_pure, Result.andThen_ok, invoke]
  rfl
namespace Y
section
variable {P : Program} {o : Oper} {n : Nat} {E : Env} {C : World → Prop} {c : Call}
theorem maxI {k k' : IntKind} {a b r : Int} (ho : o.op = .call c) (hc : c.callee = .builtin .max) (ha : evs E c.args.toList = some [.int k a, .int k' b]) (hr : max a b = r) : Yld P o n E C (.int k r) := by
  intro A w hA _
  have : (if b > a then b else a) = r := by rw [← hr, Int.max_def]; split <;> split <;> omega
  obtain ⟨cb, hcb⟩ := run_builtin (P := P) (w := w) hA ho hc ha
  rw [hcb]
  simp [builtin, Builtin.max_, Builtin.max2, this]
theorem minI {k k' : IntKind} {a b r : Int} (ho : o.op = .call c) (hc : c.callee = .builtin .min) (ha : evs E c.args.toList = some [.int k a, .int k' b]) (hr : min a b = r) : Yld P o n E C (.int k r) := by
  intro A w hA _
  have : (if b < a then b else a) = r := by rw [← hr, Int.min_def]; split <;> split <;> omega
  obtain ⟨cb, hcb⟩ := run_builtin (P := P) (w := w) hA ho hc ha
  rw [hcb]
  simp [builtin, Builtin.min_, Builtin.min2, this]
theorem lenSl {A : Option Addr} {m cap t e : Nat} (ho : o.op = .call c) (hc : c.callee = .builtin .len) (ht : c.argTypes = #[t]) (hU : P.underlying t = some (.slice e)) (ha : evs E c.args.toList = some [.slice A m cap]) : Yld P o n E C (.int .i64 (m : Int)) := by
  intro B w hB _
  obtain ⟨cb, hcb⟩ := run_builtin (P := P) (w := w) hB ho hc ha
  rw [hcb]
  simp [builtin, ht, Builtin.len_, run_underlying hU, goInt]
theorem lenStr {s : ByteArray} {t : Nat} (ho : o.op = .call c) (hc : c.callee = .builtin .len) (ht : c.argTypes = #[t]) (hU : P.underlying t = some .string) (ha : evs E c.args.toList = some [.string s]) : Yld P o n E C (.int .i64 (s.size : Int)) := by
  intro B w hB _
  obtain ⟨cb, hcb⟩ := run_builtin (P := P) (w := w) hB ho hc ha
  rw [hcb]
  simp [builtin, ht, Builtin.len_, run_underlying hU, goInt]
end
end Y

/-! ### Memory: new blocks, stores -/
section memory
variable {P : Program} {n : Nat} {ops : Array Oper} {Q : Exit → Act → World → Prop} {E : Env} {w : World} {o : Oper} {rest : List Oper} {d : Nat}

theorem WL.box {t : TypeId} {x : Operand} {v : Value} {cs : List Value} (hd : o.dst = some d) (hn : d < n) (hg : o.guard = none) (ho : o.op = .box t x) (hx : ev E x = some v) (hv : v.cells = cs.toArray)
    (h : ∀ g w', g = w.heap.size → Ext w w' → Blk w' g t cs → WL P n ops Q rest ((d, .pointer (some ⟨g, 0, none⟩)) :: E) w') : WL P n ops Q (o :: rest) E w := by
  intro a ha
  have hr : (execOp a.eval o).run P w = .ok (.value (.pointer (some ⟨w.heap.size, 0, none⟩))) (w.alloc (.cells cs.toArray t)) := by
    simp [execOp, ho, ha.ev hx, Instr.box, newVar, newRow, hv]
  refine wpList_plain hg fun K hK => wp_of_run hr (hK _ _ ?_)
  rw [hd]
  exact h _ _ rfl ((Ext.refl w).alloc _) (Blk.new w t cs) _ (ha.put hn _)
theorem WL.alloc {t : TypeId} {z : Value} {cs : List Value} {sz by' : Nat} (hd : o.dst = some d) (hn : d < n) (hg : o.guard = none) (ho : o.op = .alloc t) (hT : TI P t z sz by') (hv : z.cells = cs.toArray)
    (h : ∀ g w', g = w.heap.size → Ext w w' → Blk w' g t cs → WL P n ops Q rest ((d, .pointer (some ⟨g, 0, none⟩)) :: E) w') : WL P n ops Q (o :: rest) E w := by
  intro a ha
  have hr : (execOp a.eval o).run P w = .ok (.value (.pointer (some ⟨w.heap.size, 0, none⟩))) (w.alloc (.cells cs.toArray t)) := by
    simp [execOp, ho, Instr.alloc, hT.zeroValue, newVar, newRow, hv]
  refine wpList_plain hg fun K hK => wp_of_run hr (hK _ _ ?_)
  rw [hd]
  exact h _ _ rfl ((Ext.refl w).alloc _) (Blk.new w t cs) _ (ha.put hn _)

theorem run_storeCells {P : Program} {g : Nat} {t : TypeId} : ∀ (vs : List Value) (w : World) (cs : List Value) (off i : Nat), Blk w g t cs → off + i + vs.length ≤ cs.length → (∀ v ∈ vs, v.oneCell' = true) →
    ∃ w', (storeCells ⟨g, off, none⟩ vs i).run P w = .ok () w' ∧ Only g w w' ∧ Blk w' g t (setAll cs (off + i) vs)
  | [], w, cs, off, i, hb, _, _ => ⟨w, rfl, Only.refl g w, hb⟩
  | v :: r, w, cs, off, i, hb, hl, h1 => by
    simp only [List.length_cons] at hl
    have hlt : off + i < cs.length := by omega
    have had : (⟨g, off, none⟩ : Addr).add i = ⟨g, off + i, none⟩ := by unfold Addr.add; by_cases h0 : i = 0 <;> simp [h0]
    have hs : (store (⟨g, off + i, none⟩ : Addr) v).run P w = .ok () (w.setCell ⟨g, off + i, none⟩ v) := by
      have hcell := hb.cell (List.getElem?_eq_getElem hlt)
      have hfr := hb.frozen (off + i)
      rw [run_store _ _ _ _ _ (h1 v (by simp))]
      simp [stored, hcell, hfr]
    obtain ⟨w', hr, hon, hb'⟩ := run_storeCells r (w.setCell ⟨g, off + i, none⟩ v) (cs.set (off + i) v) off (i + 1) (hb.set_ _ _) (by rw [List.length_set]; omega) (fun u hu => h1 u (by simp [hu]))
    refine ⟨w', ?_, (Only.setCell w ⟨g, off + i, none⟩ v).trans hon, ?_⟩
    · unfold storeCells
      rw [Sem.run_bind, had, hs]
      exact hr
    · rw [show off + (i + 1) = off + i + 1 from by omega] at hb'
      exact hb'

theorem WL.store {t bt : TypeId} {x y : Operand} {g off : Nat} {v z : Value} {vs cs cs' : List Value} {by' : Nat} (hd : o.dst = none) (hg : o.guard = none) (ho : o.op = .store t x y) (hx : ev E x = some (.pointer (some ⟨g, off, none⟩))) (hy : ev E y = some v) (hv : v.cells = vs.toArray)
    (hT : TI P t z vs.length by') (hb : Blk w g bt cs) (hl : off + vs.length ≤ cs.length) (h1 : (vs.all Value.oneCell') = true) (hcs : setAll cs off vs = cs')
    (h : ∀ w', Only g w w' → Blk w' g bt cs' → WL P n ops Q rest E w') : WL P n ops Q (o :: rest) E w := by
  intro a ha
  obtain ⟨w', hr, hon, hb'⟩ := run_storeCells (P := P) vs w cs off 0 hb (by omega) (fun u hu => List.all_eq_true.1 h1 u hu)
  have hs : (execOp a.eval o).run P w = .ok .skip w' := by
    simp [execOp, ho, ha.ev hx, ha.ev hy, Instr.storeAt, Instr.sureAddr, storeVar, hv, hT.sizeOf, hr]
  subst hcs
  refine wpList_plain hg fun K hK => ?_
  unfold Oper.wp
  rw [hs]
  show K (a.put o.dst undef) w'
  rw [hd]
  exact hK _ _ (h w' hon hb' _ ha)
end memory

/-! ### Entering and leaving -/
def params : Nat → List Value → Env
  | _, [] => []
  | k, v :: r => (k, v) :: params (k + 1) r
theorem ok_params {n : Nat} (args : List Value) (hl : args.length ≤ n) : Ok n (params 0 args) { tmps := args.toArray ++ Array.replicate (n - args.toArray.size) undef, defers := [] } := by
  refine ⟨rfl, by simp; omega, fun t v hv => ?_⟩
  have key : ∀ (l : List Value) (k : Nat), look t (params k l) = some v → k ≤ t ∧ l[t - k]? = some v := by
    intro l
    induction l with
    | nil => intro k h; cases h
    | cons u r ih =>
      intro k h
      simp only [params, look] at h
      cases hb : Nat.beq k t with
      | true =>
        rw [hb] at h
        simp at h
        have := Nat.eq_of_beq_eq_true hb
        subst this; subst h
        simp
      | false =>
        rw [hb] at h
        obtain ⟨h1, h2⟩ := ih (k + 1) (by simpa using h)
        refine ⟨by omega, ?_⟩
        rw [show t - k = (t - (k + 1)) + 1 from by omega]
        simpa using h2
  obtain ⟨_, h2⟩ := key args 0 hv
  have h3 : args[t]? = some v := by simpa using h2
  have hlt : t < args.length := (List.getElem?_eq_some_iff.1 h3).1
  rw [Array.getElem?_append_left (by simpa using hlt)]
  simpa using h3
theorem calls_of_WC {P : Program} {f : FuncId} {fn : Func} {c : Code} {n : Nat} {args : List Value} {w : World} {R : Ending → World → Prop} (hf : P.funcs[f]? = some fn) (hb : fn.body = some c) (hn : fn.ntmps = n) (hl : args.length ≤ n)
    (h : WC P n c (bodyPost P fn R) (params 0 args) w) : Calls P f args.toArray w R := by
  refine calls_of_wp hf hb ?_
  rw [hn]
  exact h _ (ok_params args hl)

/-- What a function's results come to. -/
def resOk (P : Program) (w : World) (E : Env) : List ResultVar → List Value → Prop
  | [], [] => True
  | .tmp t :: r, v :: vs => look t E = some v ∧ resOk P w E r vs
  | .cell t ty :: r, v :: vs => (∃ ad, look t E = some (.pointer (some ad)) ∧ (loadVar ty ad).run P w = .ok v w) ∧ resOk P w E r vs
  | _, _ => False
def resVal : List Value → Value
  | [v] => v
  | vs => .tuple vs.toArray
def resOf (tmps : Array Value) : ResultVar → Sem Value
  | .tmp t => pure (tmps.getD t undef)
  | .cell p t => do loadVar t (← asAddr (tmps.getD p undef))
theorem results_eq (fn : Func) (tmps : Array Value) : results fn tmps = (do
    let vs ← fn.results.mapM (resOf tmps)
    pure (if h : vs.size = 1 then vs[0] else .tuple vs)) := by
  unfold results
  congr 1
theorem run_results {P : Program} {n : Nat} {w : World} {E : Env} {a : Act} (ha : Ok n E a) {fn : Func} {rs : List ResultVar} {vs : List Value} (hr : fn.results = rs.toArray) (h : resOk P w E rs vs) : (results fn a.tmps).run P w = .ok (resVal vs) w := by
  have key : ∀ (rs : List ResultVar) (vs : List Value), resOk P w E rs vs → (rs.mapM (resOf a.tmps)).run P w = .ok vs w := by
    intro rs
    induction rs with
    | nil => intro vs h; cases vs with
      | nil => rfl
      | cons _ _ => cases h
    | cons r rs ih =>
      intro vs h
      cases vs with
      | nil => cases r <;> cases h
      | cons v vs =>
        cases r with
        | tmp t =>
          obtain ⟨h1, h2⟩ := h
          have e : a.tmps.getD t undef = v := ha.ev (x := .tmp t) h1
          have e' : (resOf a.tmps (.tmp t)).run P w = .ok v w := by simp only [resOf, e, Sem.run_pure]
          simp only [List.mapM_cons, Sem.run_bind, e', Result.andThen_ok, ih vs h2, Sem.run_pure]
        | cell p t =>
          obtain ⟨⟨ad, h1, h3⟩, h2⟩ := h
          have e : a.tmps.getD p undef = .pointer (some ad) := ha.ev (x := .tmp p) h1
          have e' : (resOf a.tmps (.cell p t)).run P w = .ok v w := by simp only [resOf, e, asAddr, Sem.run_bind, Sem.run_pure, Result.andThen_ok, h3]
          simp only [List.mapM_cons, Sem.run_bind, e', Result.andThen_ok, ih vs h2, Sem.run_pure]
  rw [results_eq, hr]
  simp only [List.mapM_toArray, Sem.run_bind, Sem.run_map]
  rw [key rs vs h]
  simp only [Result.andThen_ok, Sem.run_pure]
  congr 1
  match vs with
  | [] => simp [resVal]
  | [v] => simp [resVal]
  | v :: u :: r => simp [resVal]
theorem WK.ret {P : Program} {n : Nat} {w : World} {E : Env} {fn : Func} {R : Ending → World → Prop} {rs : List ResultVar} (vs : List Value) (hr : fn.results = rs.toArray) (h : resOk P w E rs vs) (hR : R (.returned (resVal vs)) w) : WK n (bodyPost P fn R .ret) E w :=
  fun a ha => bodyPost_ret (run_results ha hr h) ha.defers hR
theorem WK.end_ {P : Program} {n : Nat} {w : World} {E : Env} {fn : Func} {R : Ending → World → Prop} {rs : List ResultVar} (vs : List Value) (hr : fn.results = rs.toArray) (h : resOk P w E rs vs) (hR : R (.returned (resVal vs)) w) : WK n (bodyPost P fn R .normal) E w :=
  fun a ha => bodyPost_end (run_results ha hr h) ha.defers hR
theorem run_loadVar_blk {P : Program} {w : World} {g : Nat} {t bt : TypeId} {D : TypeDesc} {cs : List Value} {z : Value} {by' : Nat} (hU : P.underlying t = some D) (hD : aggD D = true) (hT : TI P t z cs.length by') (hb : Blk w g bt cs) : (loadVar t ⟨g, 0, none⟩).run P w = .ok (.agg cs.toArray) w := by
  have h1 := run_loadCells_list (P := P) (w := w) ⟨g, 0, none⟩ cs (fun j u hu => by
    have : (⟨g, 0, none⟩ : Addr).add j = ⟨g, j, none⟩ := by unfold Addr.add; by_cases h0 : j = 0 <;> simp [h0]
    rw [this]; exact hb.cell hu)
  simp [loadVar, run_isAgg hU, hD, hT.sizeOf, h1]
theorem run_loadVar_one {P : Program} {w : World} {t : TypeId} {D : TypeDesc} {ad : Addr} {v : Value} (hU : P.underlying t = some D) (hD : aggD D = false) (hc : w.cell? ad = some v) : (loadVar t ad).run P w = .ok v w := by
  simp [loadVar, run_isAgg hU, hD, hc]

theorem vi {k : IntKind} {a b : Int} (h : a = b) : Value.int k a = .int k b := by rw [h]
theorem vb {a b : Bool} (h : a = b) : Value.bool a = .bool b := by rw [h]
theorem ret1 {a a' : Value} (h : a = a') : Ending.returned (resVal [a]) = .returned a' := by rw [h]; rfl
theorem ret2 {a a' b b' : Value} (h : a = a') (h2 : b = b') : Ending.returned (resVal [a, b]) = .returned (.tuple #[a', b']) := by rw [h, h2]; rfl
theorem ret3 {a a' b b' c c' : Value} (h : a = a') (h2 : b = b') (h3 : c = c') : Ending.returned (resVal [a, b, c]) = .returned (.tuple #[a', b', c']) := by rw [h, h2, h3]; rfl
theorem ret4 {a a' b b' c c' d d' : Value} (h : a = a') (h2 : b = b') (h3 : c = c') (h4 : d = d') : Ending.returned (resVal [a, b, c, d]) = .returned (.tuple #[a', b', c', d']) := by rw [h, h2, h3, h4]; rfl

/-! ### Ways out of blocks, sequences and loops -/
section ways
variable {n : Nat} {K : Act → World → Prop} {Q : Exit → Act → World → Prop} {E : Env} {w : World}
theorem WK.then_normal (h : WK n K E w) : WK n (Exit.then K Q .normal) E w := h
theorem WK.then_ret (h : WK n (Q .ret) E w) : WK n (Exit.then K Q .ret) E w := h
theorem WK.then_exit {id : Nat} (h : WK n (Q (.exit id)) E w) : WK n (Exit.then K Q (.exit id)) E w := h
theorem WK.in_normal {id : Nat} (h : WK n (Q .normal) E w) : WK n (Exit.inBlock id Q .normal) E w := h
theorem WK.in_ret {id : Nat} (h : WK n (Q .ret) E w) : WK n (Exit.inBlock id Q .ret) E w := h
theorem WK.in_exit {id : Nat} (h : WK n (Q .normal) E w) : WK n (Exit.inBlock id Q (.exit id)) E w := fun a ha => by
  simp only [Exit.inBlock, if_true]; exact h a ha
theorem WK.in_other {id id' : Nat} (hne : (id' == id) = false) (h : WK n (Q (.exit id')) E w) : WK n (Exit.inBlock id Q (.exit id')) E w := fun a ha => by
  simp only [Exit.inBlock]
  rw [if_neg (by simpa using hne)]; exact h a ha
theorem WK.round {I : Nat → Env → World → Prop} {m : Nat} (m' : Nat) (E' : Env) (hs : Sub E' E) (hlt : m' < m) (hI : I m' E' w) : WK n (Exit.then (fun a' w' => ∃ m' E', m' < m ∧ I m' E' w' ∧ Ok n E' a') Q .normal) E w :=
  fun _ ha => ⟨m', E', hlt, hI, ha.sub hs⟩
end ways
end Go.Eng
