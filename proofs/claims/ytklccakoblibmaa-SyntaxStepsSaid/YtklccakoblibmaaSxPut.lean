/- The reference's increasing lists of names, in plain terms. Conditions: none. -/
import Derived.Test.YtklccakoblibmaaSxSort
namespace Go.Proofs.Ytklccakoblibmaa
open Go Go.Eng
set_option linter.unusedSimpArgs false
namespace Sx
def putL (s : ByteArray) : List ByteArray → List ByteArray
  | [] => [s]
  | x :: r => if Y.lt x s = true then x :: putL s r else s :: (x :: r).filter fun y => !(y == s)
/-- What is still to come. -/
def restP (s : ByteArray) (b : Bool) (l : List ByteArray) : List ByteArray := if b = true then l.filter fun y => !(y == s) else putL s l
theorem restP_nil_t (s : ByteArray) : restP s true [] = [] := rfl
theorem restP_nil_f (s : ByteArray) : restP s false [] = [s] := rfl
theorem drop_next {α : Type} [Inhabited α] {l : List α} {i : Nat} (h : i < l.length) : l.drop i = l[i]! :: l.drop (i + 1) := by
  rw [getElem!_pos l i h]; exact List.drop_eq_getElem_cons h
theorem rest_t_no {s x : ByteArray} {r : List ByteArray} (h : (x == s) = true) : restP s true (x :: r) = restP s true r := by
  unfold restP
  rw [if_pos rfl, if_pos rfl, List.filter_cons, h]; rfl
theorem rest_t_yes {s x : ByteArray} {r : List ByteArray} (h : (x == s) = false) : restP s true (x :: r) = x :: restP s true r := by
  unfold restP
  rw [if_pos rfl, if_pos rfl, List.filter_cons, h]; rfl
theorem rest_f_ge {s x : ByteArray} {r : List ByteArray} (h : Y.lt x s = false) : restP s false (x :: r) = s :: restP s true (x :: r) := by
  unfold restP
  rw [if_neg (by simp), if_pos rfl, putL, if_neg (by rw [h]; simp)]
theorem rest_f_lt {s x : ByteArray} {r : List ByteArray} (h : Y.lt x s = true) : restP s false (x :: r) = x :: restP s false r := by
  unfold restP
  rw [if_neg (by simp), if_neg (by simp), putL, if_pos h]
theorem less_irr : ∀ l : List UInt8, Op.bytesLess l l = false
  | [] => rfl
  | x :: r => by
    unfold Op.bytesLess
    have := less_irr r
    simp [this]
theorem lt_irr (s : ByteArray) : Y.lt s s = false := less_irr _
def putA (u t : List ByteArray) : List ByteArray := t.foldl (fun a s => putL s a) u
theorem putL_len (s : ByteArray) : ∀ l : List ByteArray, (putL s l).length ≤ l.length + 1
  | [] => by simp [putL]
  | x :: r => by
    rw [putL]
    split
    · have := putL_len s r; simp only [List.length_cons]; omega
    · have := List.length_filter_le (fun y => !(y == s)) (x :: r)
      simp only [List.length_cons] at this ⊢; omega
theorem putA_len : ∀ (t u : List ByteArray), (putA u t).length ≤ u.length + t.length
  | [], u => by simp [putA]
  | s :: r, u => by
    have h1 := putA_len r (putL s u)
    have h2 := putL_len s u
    show (putA (putL s u) r).length ≤ _
    simp only [List.length_cons]; omega
theorem putA_app (u t t' : List ByteArray) : putA (putA u t) t' = putA u (t ++ t') := by unfold putA; rw [List.foldl_append]
def pcur (x : E) (u : List ByteArray) (i : Nat) : List ByteArray := putA u ((if x.op = 2 then [x.nm] else []) ++ fldsL (x.kids.take i))
theorem pcur_yes {x : E} {u : List ByteArray} (h : x.op = 2) : putL x.nm u = pcur x u 0 := by
  unfold pcur
  rw [if_pos h, List.take_zero, fldsL]; rfl
theorem pcur_no {x : E} {u : List ByteArray} (h : ¬ x.op = 2) : u = pcur x u 0 := by
  unfold pcur
  rw [if_neg h, List.take_zero, fldsL]; rfl
theorem pcur_next {x : E} {u : List ByteArray} {i : Nat} (hi : i < x.kids.length) : putA (pcur x u i) (flds x.kids[i]!) = pcur x u (i + 1) := by
  unfold pcur
  rw [putA_app, fldsL_next hi, List.append_assoc]
theorem pcur_end {x : E} {u : List ByteArray} {i : Nat} (hi : x.kids.length ≤ i) : pcur x u i = putA u (flds x) := by
  unfold pcur
  rw [List.take_of_length_le hi, flds_eq]
theorem pcur_len {x : E} {u : List ByteArray} {i : Nat} : (pcur x u i).length ≤ u.length + 1 + cntL (x.kids.take i) := by
  unfold pcur
  have h := putA_len ((if x.op = 2 then [x.nm] else []) ++ fldsL (x.kids.take i)) u
  have h2 := fldsL_cnt (l := x.kids.take i) fun k _ => flds_cnt k
  rw [List.length_append] at h
  split at h
  · rename_i h0; rw [if_pos h0]; simp only [List.length_cons, List.length_nil] at h; omega
  · rename_i h0; rw [if_neg h0]; simp only [List.length_nil] at h; omega
end Sx
end Go.Proofs.Ytklccakoblibmaa
