/- The walker's rules for strings: a byte, a part, a sum, an order; interface values against nil. Over any program. Conditions: none. -/
import Derived.Test.YtaglpampidlbmaaList
namespace Go.Eng
open Go Go.RowKit
theorem beqB (a b : ByteArray) : (a == b) = decide (a = b) := by
  rw [beq_toListBytes, ByteArray.toList_eq, ByteArray.toList_eq]
  obtain ⟨⟨x⟩⟩ := a
  obtain ⟨⟨y⟩⟩ := b
  show (x == y) = _
  by_cases h : x = y
  · subst h
    rw [beq_self_eq_true, decide_eq_true rfl]
  · rw [beq_eq_false_iff_ne.2 h, decide_eq_false]
    intro e
    exact h (by injection e with e; injection e)
theorem beqB_self (a : ByteArray) : (a == a) = true := by rw [beqB]; exact decide_eq_true rfl
theorem beqB_eq {a b : ByteArray} : (a == b) = true ↔ a = b := by rw [beqB]; exact decide_eq_true_iff
theorem beqB_ne {a b : ByteArray} : (a == b) = false ↔ a ≠ b := by rw [beqB]; exact decide_eq_false_iff_not
/-- A byte of a string, as a number. -/
def bat (s : ByteArray) (i : Nat) : Int := ((s.data.toList[i]!.toNat : Nat) : Int)
theorem bat_rng (s : ByteArray) (i : Nat) : 0 ≤ bat s i ∧ bat s i ≤ 255 := by
  unfold bat
  have := (s.data.toList[i]!).toNat_lt
  omega
theorem bat_at {s : ByteArray} {i : Nat} (h : i < s.size) : s[i]?.map (fun b => (b.toNat : Int)) = some (bat s i) := by
  have h2 : s[i]? = some s[i] := getElem?_pos s i h
  have h3 : i < s.data.toList.length := by simpa using h
  rw [h2, Option.map_some]
  unfold bat
  rw [List.getElem!_eq_getElem?_getD, List.getElem?_eq_getElem h3, Option.getD_some]
  rfl
namespace Y
section
variable {P : Program} {o : Oper} {n : Nat} {E : Env} {C : World → Prop} {t : TypeId} {x y : Operand} {s : ByteArray} {k k' : IntKind} {b c : Int}
theorem indexStr (i : Nat) (ho : o.op = .index t x y) (hU : P.underlying t = some .string) (hx : ev E x = some (.string s)) (hy : ev E y = some (.int k b)) (hb : b = (i : Int)) (h : i < s.size) : Yld P o n E C (.int .u8 (bat s i)) := by
  intro A w hA _
  subst hb
  have h1 := bat_at h
  cases h2 : s[i]? with
  | none => rw [h2] at h1; cases h1
  | some z =>
    rw [h2] at h1
    simp only [Option.map_some, Option.some.injEq] at h1
    have h0 : (0 : Int) ≤ (i : Int) := Int.natCast_nonneg _
    simp only [execOp, ho, hA.ev hx, hA.ev hy, Instr.index, asIntOf, run_underlying hU, Sem.run_bind, Sem.run_pure, Result.andThen_ok, h0, if_true, Int.toNat_natCast, h2, h1]
theorem sliceStr {lo hi : Operand} (l h : Nat) (ho : o.op = .slice t x (some lo) (some hi) none) (hU : P.underlying t = some .string) (hx : ev E x = some (.string s)) (hl : ev E lo = some (.int k b)) (hb : b = (l : Int)) (hh : ev E hi = some (.int k' c)) (hc : c = (h : Int)) (h1 : l ≤ h) (h2 : h ≤ s.size) : Yld P o n E C (.string (s.extract l h)) := by
  intro A w hA _
  subst hb; subst hc
  have e1 : (0 : Int) ≤ (l : Int) ∧ (l : Int) ≤ (h : Int) := by omega
  have e2 : (0 : Int) ≤ (h : Int) ∧ (h : Int) ≤ (s.size : Int) := by omega
  simp [execOp, ho, hA.ev hx, hA.ev hl, hA.ev hh, Instr.sliceAt, Instr.slice, Instr.sliceBounds, Instr.sliceBound, asIntOf, run_underlying hU, h1, h2]
theorem sliceStrH {hi : Operand} (h : Nat) (ho : o.op = .slice t x none (some hi) none) (hU : P.underlying t = some .string) (hx : ev E x = some (.string s)) (hh : ev E hi = some (.int k' c)) (hc : c = (h : Int)) (h2 : h ≤ s.size) : Yld P o n E C (.string (s.extract 0 h)) := by
  intro A w hA _
  subst hc
  have e2 : (0 : Int) ≤ (h : Int) ∧ (h : Int) ≤ (s.size : Int) := by omega
  simp [execOp, ho, hA.ev hx, hA.ev hh, Instr.sliceAt, Instr.slice, Instr.sliceBounds, Instr.sliceBound, asIntOf, run_underlying hU, h2]
theorem sliceStrL {lo : Operand} (l : Nat) (ho : o.op = .slice t x (some lo) none none) (hU : P.underlying t = some .string) (hx : ev E x = some (.string s)) (hl : ev E lo = some (.int k b)) (hb : b = (l : Int)) (h2 : l ≤ s.size) : Yld P o n E C (.string (s.extract l s.size)) := by
  intro A w hA _
  subst hb
  have e2 : (0 : Int) ≤ (l : Int) ∧ (l : Int) ≤ (s.size : Int) := by omega
  simp [execOp, ho, hA.ev hx, hA.ev hl, Instr.sliceAt, Instr.slice, Instr.sliceBounds, Instr.sliceBound, asIntOf, run_underlying hU, h2]
theorem addStr {t' : TypeId} {r : ByteArray} (ho : o.op = .binOp .add t x y t') (hx : ev E x = some (.string s)) (hy : ev E y = some (.string r)) (h : s.size + r.size ≤ 9223372036854775807) : Yld P o n E C (.string (s ++ r)) := by
  intro A w hA _
  have hg : (eqGuard .add t x y (.string s) (.string r)).run P w = .ok () w := rfl
  have hm : ¬ (((s.size + r.size : Nat) : Int) > IntKind.i64.max) := by
    rw [show IntKind.i64.max = 9223372036854775807 from rfl]; omega
  simp only [execOp, ho, hA.ev hx, hA.ev hy, Sem.run_bind, hg, Result.andThen_ok, binOp, Op.stringOp, if_neg hm, Sem.run_pure]
/-- The order of strings. -/
def lt (a b : ByteArray) : Bool := Op.bytesLess a.toList b.toList
theorem lssStr {t' : TypeId} {r : ByteArray} (ho : o.op = .binOp .lss t x y t') (hx : ev E x = some (.string s)) (hy : ev E y = some (.string r)) : Yld P o n E C (.bool (lt s r)) := by
  intro A w hA _
  have hg : (eqGuard .lss t x y (.string s) (.string r)).run P w = .ok () w := rfl
  simp only [execOp, ho, hA.ev hx, hA.ev hy, Sem.run_bind, hg, Result.andThen_ok, binOp, Op.stringOp, Sem.run_pure, lt]
theorem geqStr {t' : TypeId} {r : ByteArray} (ho : o.op = .binOp .geq t x y t') (hx : ev E x = some (.string s)) (hy : ev E y = some (.string r)) : Yld P o n E C (.bool (!lt s r)) := by
  intro A w hA _
  have hg : (eqGuard .geq t x y (.string s) (.string r)).run P w = .ok () w := rfl
  simp only [execOp, ho, hA.ev hx, hA.ev hy, Sem.run_bind, hg, Result.andThen_ok, binOp, Op.stringOp, Sem.run_pure, lt]
/-- An interface value against nil. -/
theorem run_eqNil {ms : Array (String × TypeId)} (hU : P.underlying t = some (.interface ms)) (w : World) : (Op.equal t .nilIface .nilIface).run P w = .ok true w := by
  unfold Op.equal Op.maxDepth
  rw [show (10000 : Nat) = 9999 + 1 from rfl]
  unfold Op.equalIn
  simp [run_underlying hU]
theorem run_eqNot {ms : Array (String × TypeId)} {tp : TypeId} {p : Value} (hU : P.underlying t = some (.interface ms)) (w : World) : (Op.equal t (.iface tp p) .nilIface).run P w = .ok false w := by
  unfold Op.equal Op.maxDepth
  rw [show (10000 : Nat) = 9999 + 1 from rfl]
  unfold Op.equalIn
  simp [run_underlying hU]
theorem eqlNil {t' : TypeId} {ms : Array (String × TypeId)} (ho : o.op = .binOp .eql t x (.const .nilIface) t') (hU : P.underlying t = some (.interface ms)) (hx : ev E x = some .nilIface) : Yld P o n E C (.bool true) := by
  intro A w hA _
  have hg : (eqGuard .eql t x (.const .nilIface) .nilIface .nilIface).run P w = .ok () w := by
    simp [eqGuard]
  have hb : binOp .eql t .nilIface .nilIface = (do pure (.bool ((← Op.equal t .nilIface .nilIface)))) := rfl
  have hc : A.eval (.const .nilIface) = .nilIface := rfl
  simp only [execOp, ho, hA.ev hx, hc, Sem.run_bind, hg, hb, run_eqNil hU, Result.andThen_ok, Sem.run_pure, Bool.not_true, Bool.not_false]
theorem eqlNot {t' tp : TypeId} {p : Value} {ms : Array (String × TypeId)} (ho : o.op = .binOp .eql t x (.const .nilIface) t') (hU : P.underlying t = some (.interface ms)) (hx : ev E x = some (.iface tp p)) : Yld P o n E C (.bool false) := by
  intro A w hA _
  have hg : (eqGuard .eql t x (.const .nilIface) (.iface tp p) .nilIface).run P w = .ok () w := by
    simp [eqGuard]
  have hb : binOp .eql t (.iface tp p) .nilIface = (do pure (.bool ((← Op.equal t (.iface tp p) .nilIface)))) := rfl
  have hc : A.eval (.const .nilIface) = .nilIface := rfl
  simp only [execOp, ho, hA.ev hx, hc, Sem.run_bind, hg, hb, run_eqNot hU, Result.andThen_ok, Sem.run_pure, Bool.not_true, Bool.not_false]
theorem neqNil {t' : TypeId} {ms : Array (String × TypeId)} (ho : o.op = .binOp .neq t x (.const .nilIface) t') (hU : P.underlying t = some (.interface ms)) (hx : ev E x = some .nilIface) : Yld P o n E C (.bool false) := by
  intro A w hA _
  have hg : (eqGuard .neq t x (.const .nilIface) .nilIface .nilIface).run P w = .ok () w := by
    simp [eqGuard]
  have hb : binOp .neq t .nilIface .nilIface = (do pure (.bool (!(← Op.equal t .nilIface .nilIface)))) := rfl
  have hc : A.eval (.const .nilIface) = .nilIface := rfl
  simp only [execOp, ho, hA.ev hx, hc, Sem.run_bind, hg, hb, run_eqNil hU, Result.andThen_ok, Sem.run_pure, Bool.not_true, Bool.not_false]
theorem neqNot {t' tp : TypeId} {p : Value} {ms : Array (String × TypeId)} (ho : o.op = .binOp .neq t x (.const .nilIface) t') (hU : P.underlying t = some (.interface ms)) (hx : ev E x = some (.iface tp p)) : Yld P o n E C (.bool true) := by
  intro A w hA _
  have hg : (eqGuard .neq t x (.const .nilIface) (.iface tp p) .nilIface).run P w = .ok () w := by
    simp [eqGuard]
  have hb : binOp .neq t (.iface tp p) .nilIface = (do pure (.bool (!(← Op.equal t (.iface tp p) .nilIface)))) := rfl
  have hc : A.eval (.const .nilIface) = .nilIface := rfl
  simp only [execOp, ho, hA.ev hx, hc, Sem.run_bind, hg, hb, run_eqNot hU, Result.andThen_ok, Sem.run_pure, Bool.not_true, Bool.not_false]
end
end Y
end Go.Eng
