/- The walker's rules for the bytes of a string, and for the bitwise or. Over any program. Conditions: none. -/
import Derived.Test.YtghfncgciaiofaaDoorStr
import Derived.Lib.ConvBytes
import Derived.Lib.AtoiErrMem
namespace Go.Eng
open Go Go.RowKit
def uc (x : Int) : List Value := [.int .u8 x]
theorem uc_one (x : Int) : ∀ u ∈ uc x, u.oneCell' = true := by simp [uc, Value.oneCell']
def bytesL (s : ByteArray) : List Int := (List.range s.size).map (bat s)
theorem bytesL_len (s : ByteArray) : (bytesL s).length = s.size := by simp [bytesL]
theorem bytesL_at {s : ByteArray} {i : Nat} (h : i < s.size) : (bytesL s)[i]! = bat s i := by
  rw [getElem!_pos _ i (by rw [bytesL_len]; exact h)]
  simp [bytesL]
section
variable {P : Program} {n : Nat} {ops : Array Oper} {E : Env} {w : World} {o : Oper} {rest : List Oper} {d : Nat}
theorem bytes_ls (w : World) (e : TypeId) (s : ByteArray) (hs : s.size ≤ maxLen) : Ls (Lib.bytesWorld w e s) (some ⟨w.heap.size, 0, none⟩) s.size (grownCap w s.size 0 e) uc 1 (bytesL s) := by
  refine ⟨bytesL_len s, grownCap_ge w _ _ _, grownCap_le_maxLen w _ _ _ hs, fun i x hx => ?_⟩
  have hi : i < s.size := by
    have := (List.getElem?_eq_some_iff.1 hx).1
    rwa [bytesL_len] at this
  refine ⟨_, rfl, Nat.zero_le _, by rw [Lib.bytesWorld_size]; exact Nat.lt_succ_self _, fun j u hu => ?_⟩
  have hj : j = 0 := by
    have := (List.getElem?_eq_some_iff.1 hu).1
    simp [uc] at this; exact this
  subst hj
  rw [get_bang (by rw [bytesL_len]; exact hi), bytesL_at hi] at hx
  injection hx with hx
  subst hx
  simp only [uc, List.getElem?_cons_zero, Option.some.injEq] at hu
  subst hu
  rw [Nat.mul_one, Nat.add_zero, add_blk, Nat.zero_add, Lib.bytesWorld_cell w e s i hi]
  unfold bat
  have h3 : i < s.data.toList.length := by simpa using hi
  rw [List.getElem!_eq_getElem?_getD, List.getElem?_eq_getElem h3, List.getD, List.getElem?_eq_getElem h3]
  rfl
/-- The bytes of a string. -/
theorem WL.bytes {Q : Exit → Act → World → Prop} {src t e : TypeId} {x : Operand} {s : ByteArray} {u : TypeDesc} (hd : o.dst = some d) (hn : d < n) (hg : o.guard = none) (ho : o.op = .convert src t x) (hs : P.underlying src = some u) (ht : P.underlying t = some (.slice e)) (he : P.underlying e = some (.int .u8)) (hx : ev E x = some (.string s)) (hl : s.size ≤ 100000)
    (h : ∀ A c w', Ext w w' → Ls w' A s.size c uc 1 (bytesL s) → WL P n ops Q rest ((d, .slice A s.size c) :: E) w') : WL P n ops Q (o :: rest) E w := by
  intro a hA
  refine wpList_plain hg fun K hK => wp_of_run (w' := Lib.bytesWorld w e s) (v := .slice (some ⟨w.heap.size, 0, none⟩) s.size (grownCap w s.size 0 e)) ?_ (hK _ _ ?_)
  · simp [execOp, ho, hA.ev hx, Lib.run_convert_string_bytes w src t e s hs ht he]
  · rw [hd]
    exact h _ _ _ (Ext.of (Lib.bytesWorld_below w e s)) (bytes_ls w e s (by unfold maxLen; omega)) _ (hA.put hn _)
end
namespace Y
theorem orK {P : Program} {n : Nat} {E : Env} {C : World → Prop} {o : Oper} {x y : Operand} {t t' : TypeId} {k : IntKind} {a b r : Int} (ho : o.op = .binOp .or t x y t') (hx : ev E x = some (.int k a)) (hy : ev E y = some (.int k b)) (h : bits .or k a b = r) : Yld P o n E C (.int k r) :=
  int2 ho hx hy fun w => by
    simp only [binOp, ne_eq, not_true_eq_false, if_false, Op.intBits]
    show Result.ok (Value.int k (bits .or k a b)) w = _
    rw [h]
end Y
end Go.Eng
