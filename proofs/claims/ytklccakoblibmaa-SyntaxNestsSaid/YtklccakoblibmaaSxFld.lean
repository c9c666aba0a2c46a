/- The columns of an expression, as they are collected. Conditions: none. -/
import Derived.Test.YtklccakoblibmaaSxSame
namespace Go.Proofs.Ytklccakoblibmaa
open Go Go.Eng
set_option linter.unusedSimpArgs false
namespace Sx
def fcur (x : E) (u : List ByteArray) (i : Nat) : List ByteArray := u ++ ((if x.op = 2 then [x.nm] else []) ++ fldsL (x.kids.take i))
theorem fcur_yes {x : E} {u : List ByteArray} (h : x.op = 2) : u ++ [x.nm] = fcur x u 0 := by
  unfold fcur
  rw [if_pos h, List.take_zero, fldsL, List.append_nil]
theorem fcur_no {x : E} {u : List ByteArray} (h : ¬ x.op = 2) : u = fcur x u 0 := by
  unfold fcur
  rw [if_neg h, List.take_zero, fldsL, List.append_nil, List.append_nil]
theorem fcur_next {x : E} {u : List ByteArray} {i : Nat} (hi : i < x.kids.length) : fcur x u i ++ flds x.kids[i]! = fcur x u (i + 1) := by
  unfold fcur
  rw [fldsL_next hi, List.append_assoc, List.append_assoc]
theorem fcur_end {x : E} {u : List ByteArray} {i : Nat} (hi : x.kids.length ≤ i) : fcur x u i = u ++ flds x := by
  unfold fcur
  rw [List.take_of_length_le hi, flds_eq]
theorem fldsL_cnt {l : List E} (h : ∀ k ∈ l, (flds k).length ≤ cnt k) : (fldsL l).length ≤ cntL l := by
  induction l with
  | nil => simp [fldsL, cntL]
  | cons k r ih =>
    rw [fldsL, cntL, List.length_append]
    have h1 := h k (by simp)
    have h2 := ih fun z hz => h z (by simp [hz])
    omega
theorem flds_cnt (e : E) : (flds e).length ≤ cnt e := E.ind (p := fun e => (flds e).length ≤ cnt e) (fun e h => by
  rw [flds_eq, cnt_eq, List.length_append]
  have := fldsL_cnt h
  split
  · simp only [List.length_cons, List.length_nil]; omega
  · simp only [List.length_nil]; omega) e
theorem fcur_len {x : E} {u : List ByteArray} {i : Nat} : (fcur x u i).length ≤ u.length + 1 + cntL (x.kids.take i) := by
  unfold fcur
  rw [List.length_append, List.length_append]
  have := fldsL_cnt (l := x.kids.take i) fun k _ => flds_cnt k
  split
  · simp only [List.length_cons, List.length_nil]; omega
  · simp only [List.length_nil]; omega
end Sx
end Go.Proofs.Ytklccakoblibmaa
