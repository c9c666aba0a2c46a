/- strings.IndexByte, laid over this program in plain words (printed by the kit's laying command: wip/gen/layplain.py); what it gives at the signs. Conditions: none. -/
import Derived.Test.YtghfncgciaiofaaDoorProg
import Derived.Shelf.Small.Strs
import Derived.Test.YtghfncgciaiofaaDoorSySpec
namespace Go.Proofs.YtghfncgciaiofaaDoor
open Go Go.Shelf Go.Proofs Go.Eng
def Tryd.lays137_ren : Go.Shelf.Ren := ⟨fun | 137 => 47 | 217 => 50 | 266 => 56 | n => n, fun | 9 => 9 | 5 => 5 | 3 => 3 | n => n, fun | n => n⟩
theorem Tryd.lays137 : Go.Proofs.Lays.n137 Tryd.prog Tryd.lays137_ren := {
  mixed := by kernel_rfl
  f137 := Tryd.func47.trans (congrArg some (by kernel_rfl))
  f217 := Tryd.func50.trans (congrArg some (by kernel_rfl))
  f266 := Tryd.func56.trans (congrArg some (by kernel_rfl))
  t3 := Tryd.underlying3
  a3 := Tryd.isAgg3
  z3 := Tryd.sizeOf3
  v3 := Tryd.zeroValue3
  t5 := Tryd.underlying5
  a5 := Tryd.isAgg5
  z5 := Tryd.sizeOf5
  v5 := Tryd.zeroValue5
  t9 := Tryd.underlying9
  a9 := Tryd.isAgg9
  z9 := Tryd.sizeOf9
  v9 := Tryd.zeroValue9 }

namespace Sy
def signs : ByteArray := ⟨#[95, 46, 58, 47, 60, 62, 36, 42, 126, 45]⟩
def ixB (c : Int) : Int := Lib.indexByte signs.data.toList c.toNat.toUInt8
theorem sg_size : signs.size = 10 := rfl
theorem ix_all : ∀ c : Fin 256, decide (Lib.indexByte signs.data.toList c.val.toUInt8 ≥ 0) = ([95, 46, 58, 47, 60, 62, 36, 42, 126, 45] : List Int).contains (c.val : Int) := by decide +kernel
theorem ix_at {c : Int} (h : 0 ≤ c ∧ c ≤ 255) : decide (ixB c ≥ 0) = ([95, 46, 58, 47, 60, 62, 36, 42, 126, 45] : List Int).contains c := by
  obtain ⟨n, rfl⟩ := Int.eq_ofNat_of_zero_le h.1
  exact ix_all ⟨n, by omega⟩
theorem let_ix {c : Int} (h : 0 ≤ c ∧ c ≤ 255) : ((((decide (c ≥ 97) && decide (c ≤ 122)) || (decide (c ≥ 65) && decide (c ≤ 90))) || (decide (c ≥ 48) && decide (c ≤ 57))) || decide (ixB c ≥ 0)) = letB c := by
  rw [ix_at h]; rfl
theorem sg_all : ∀ i : Fin 10, ([95, 46, 58, 47, 60, 62, 36, 42, 126, 45] : List Int)[i.val]? = some (bat signs i.val) := by decide +kernel
theorem sg_get {i : Nat} (h : i < 10) : ([95, 46, 58, 47, 60, 62, 36, 42, 126, 45] : List Int)[i]? = some (bat signs i) := sg_all ⟨i, h⟩
theorem let_yes {c : Int} {i : Nat} (h : i < 10) (e : (bat signs i == c) = true) : letB c = true := by
  unfold letB
  have hm : c ∈ ([95, 46, 58, 47, 60, 62, 36, 42, 126, 45] : List Int) := by
    rw [← eq_of_beq e]; exact List.mem_of_getElem? (sg_get h)
  rw [List.contains_iff_mem.2 hm, Bool.or_true]
theorem let_first {c : Int} (h : (((decide (c ≥ 97) && decide (c ≤ 122)) || (decide (c ≥ 65) && decide (c ≤ 90))) || (decide (c ≥ 48) && decide (c ≤ 57))) = true) : letB c = true := by
  unfold letB; rw [h, Bool.true_or]
theorem let_no {c : Int} (h : (((decide (c ≥ 97) && decide (c ≤ 122)) || (decide (c ≥ 65) && decide (c ≤ 90))) || (decide (c ≥ 48) && decide (c ≤ 57))) = false) (hb : ∀ j, j < 10 → (bat signs j == c) = false) : letB c = false := by
  unfold letB
  rw [h, Bool.false_or]
  cases hc : ([95, 46, 58, 47, 60, 62, 36, 42, 126, 45] : List Int).contains c with
  | false => rfl
  | true =>
    obtain ⟨j, hj, e⟩ := List.mem_iff_getElem.1 (List.contains_iff_mem.1 hc)
    have hj' : j < 10 := hj
    have h1 := sg_get hj'
    rw [List.getElem?_eq_getElem hj, e] at h1
    injection h1 with h1
    have := hb j hj'
    rw [← h1, beq_self_eq_true] at this; cases this
theorem nm_a {s : ByteArray} (h : ((s == ⟨#[]⟩) || decide (((s.size : Nat) : Int) > 40)) = true) : nmE s = 3 := by
  simp only [Bool.or_eq_true, decide_eq_true_eq] at h
  refine nmE_short ?_
  rcases h with h | h
  · rw [beqB_eq.1 h]; exact .inl (by decide)
  · omega
theorem nm_b {s : ByteArray} (h : ((s == ⟨#[]⟩) || decide (((s.size : Nat) : Int) > 40)) = false) : 1 ≤ s.size ∧ s.size ≤ 40 := by
  simp only [Bool.or_eq_false_iff, decide_eq_false_iff_not] at h
  have h1 := beqB_ne.1 h.1
  refine ⟨?_, by omega⟩
  rcases Nat.eq_zero_or_pos s.size with h0 | h0
  · exact absurd (ByteArray.ext (Array.eq_empty_of_size_eq_zero h0)) h1
  · exact h0
theorem many_at {l : List M} {n : Nat} {z : Nat} (hn : l.length = n) (hz : z = tot l n) : (decide (((n : Nat) : Int) > 64) || decide (((z : Nat) : Int) > 500)) = many l := by
  subst hn; subst hz
  unfold many
  congr 1
  · exact decide_eq_decide.2 (by omega)
  · exact decide_eq_decide.2 (by omega)
theorem befo_zero (l : List M) : befo l 0 = 0 := rfl
theorem befo_next (l : List M) (i : Nat) : befo l (i + 1) = l[i]!.b + l[i]!.s := by unfold befo; rw [if_neg (by omega), Nat.add_sub_cancel]
theorem befo_pos {l : List M} {i : Nat} (h : 0 < i) : befo l i = l[i - 1]!.b + l[i - 1]!.s := by unfold befo; rw [if_neg (by omega)]
theorem few_of {l : List M} (h1 : l.length ≤ 70) (h2 : ∀ i, i < l.length → l[i]!.n ≤ 60 ∧ l[i]!.nm.size ≤ 100 ∧ l[i]!.l.length = l[i]!.n ∧ ∀ k, k < l[i]!.n → l[i]!.l[k]!.nm.size ≤ 100) : Few l := by
  have get : ∀ x ∈ l, ∃ i, i < l.length ∧ l[i]! = x := fun x hx => by
    obtain ⟨i, hi, e⟩ := List.mem_iff_getElem.1 hx
    exact ⟨i, hi, by rw [getElem!_pos l i hi]; exact e⟩
  refine ⟨h1, fun x hx => ?_, fun x hx y hy => ?_⟩
  · obtain ⟨i, hi, rfl⟩ := get x hx
    exact ⟨(h2 i hi).1, (h2 i hi).2.1, (h2 i hi).2.2.1⟩
  · obtain ⟨i, hi, rfl⟩ := get x hx
    obtain ⟨k, hk, e⟩ := List.mem_iff_getElem.1 hy
    have := (h2 i hi).2.2.2 k (by have := (h2 i hi).2.2.1; omega)
    rw [getElem!_pos _ k hk, e] at this
    exact this
end Sy
end Go.Proofs.YtghfncgciaiofaaDoor
