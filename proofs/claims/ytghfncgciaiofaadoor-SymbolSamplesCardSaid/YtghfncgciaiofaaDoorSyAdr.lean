/- Addresses in frames, in plain terms. Conditions: none. -/
import Derived.Test.YtghfncgciaiofaaDoorSyLay
import Derived.Test.YtghfncgciaiofaaDoorBytes
namespace Go.Proofs.YtghfncgciaiofaaDoor
open Go Go.Eng
namespace Sy
def preB (s : ByteArray) : Bool := (decide (((s.size : Nat) : Int) < 3) || decide (((s.size : Nat) : Int) > 14)) || !(s.extract 0 2 == ⟨#[48, 120]⟩)
def hexB (c : Int) : Bool := (decide (c ≥ 48) && decide (c ≤ 57)) || (decide (c ≥ 97) && decide (c ≤ 102))
theorem hexB_iff (c : Int) : hexB c = true ↔ (48 ≤ c ∧ c ≤ 57) ∨ (97 ≤ c ∧ c ≤ 102) := by unfold hexB; simp
theorem hex_not {c : Int} (h : hexB c = false) : ¬ ((48 ≤ c ∧ c ≤ 57) ∨ (97 ≤ c ∧ c ≤ 102)) := fun q => by rw [(hexB_iff c).2 q] at h; cases h
def hexv (c : Int) : Int := if c ≤ 57 then c - 48 else c - 87
def hv (t : ByteArray) : Nat → Int
  | 0 => 0
  | k + 1 => 16 * hv t k + hexv (bat t k)
def tl (s : ByteArray) : ByteArray := s.extract 2 s.size
def AllHex (t : ByteArray) (n : Nat) : Prop := ∀ j, j < n → hexB (bat t j) = true
open Classical in
noncomputable def adr (s : ByteArray) : Int × Bool := if preB s = true ∨ ¬ AllHex (tl s) (s.size - 2) then (0, false) else (hv (tl s) (s.size - 2), true)
theorem adr_pre {s : ByteArray} (h : preB s = true) : adr s = (0, false) := by unfold adr; rw [if_pos (.inl h)]
theorem adr_bad {s : ByteArray} {i : Nat} (hi : i < s.size - 2) (h : hexB (bat (tl s) i) = false) : adr s = (0, false) := by
  unfold adr; rw [if_pos (.inr fun q => by rw [q i hi] at h; cases h)]
theorem adr_ok {s : ByteArray} (h : preB s = false) (hh : AllHex (tl s) (s.size - 2)) : adr s = (hv (tl s) (s.size - 2), true) := by
  unfold adr; rw [if_neg]
  rintro (q | q)
  · rw [h] at q; cases q
  · exact q hh
theorem pre_size {s : ByteArray} (h : preB s = false) : 3 ≤ s.size ∧ s.size ≤ 14 := by
  unfold preB at h
  simp only [Bool.or_eq_false_iff, decide_eq_false_iff_not] at h
  omega
theorem tl_size (s : ByteArray) : (tl s).size = s.size - 2 := by unfold tl; rw [ByteArray.size_extract]; omega
theorem tl_bat {s : ByteArray} {j : Nat} (h : j + 2 < s.size) : bat (tl s) j = bat s (j + 2) := by
  unfold bat tl
  rw [ByteArray.data_extract, Array.toList_extract]
  have h1 : j + 2 < s.data.toList.length := by simpa using h
  have h2 : j < (List.drop 2 (List.take s.size s.data.toList)).length := by simp; omega
  simp [List.getElem!_eq_getElem?_getD, List.getElem?_drop, List.getElem?_take, Nat.add_comm 2 j, h]
  rw [if_pos (by omega)]; rfl
theorem hexv_rng {c : Int} (h : hexB c = true) : 0 ≤ hexv c ∧ hexv c ≤ 15 := by
  rw [hexB_iff] at h
  unfold hexv; split <;> omega
theorem hv_lt {t : ByteArray} : ∀ {n : Nat}, AllHex t n → 0 ≤ hv t n ∧ hv t n < 16 ^ n
  | 0, _ => ⟨Int.le_refl _, (show (0 : Int) < 16 ^ 0 by decide)⟩
  | n + 1, h => by
    obtain ⟨h1, h2⟩ := hv_lt (n := n) fun j hj => h j (by omega)
    have h3 := hexv_rng (h n (by omega))
    rw [Int.pow_succ]
    simp only [hv]
    omega
theorem hv_rng {t : ByteArray} {n : Nat} (h : AllHex t n) (hn : n ≤ 12) : 0 ≤ hv t n ∧ hv t n ≤ 281474976710655 := by
  obtain ⟨h1, h2⟩ := hv_lt h
  have h3 : (16 : Int) ^ n ≤ 16 ^ 12 := by
    have := Nat.pow_le_pow_right (n := 16) (by decide) hn
    exact_mod_cast this
  have h4 : (16 : Int) ^ 12 = 281474976710656 := by decide
  omega
theorem hv_dig {t : ByteArray} {i : Nat} {z : Int} (hz : z = hv t i) (h1 : bat t i ≥ 48) (h2 : bat t i ≤ 57) : 16 * z + (bat t i - 48) = hv t (i + 1) := by
  simp only [hv, hexv]; rw [if_pos h2, hz]
theorem hv_let {t : ByteArray} {i : Nat} {z : Int} (hz : z = hv t i) (h1 : bat t i ≥ 97) : 16 * z + 10 + (bat t i - 97) = hv t (i + 1) := by
  simp only [hv, hexv]; rw [if_neg (by omega), hz]; omega
theorem hv_dig' {t : ByteArray} {i : Nat} {z : Int} (hz : z = hv t i) (h1 : bat t i ≥ 48) (h2 : bat t i ≤ 57) : z * 16 + (bat t i - 48) = hv t (i + 1) := by
  rw [← hv_dig hz h1 h2]; omega
theorem hv_let' {t : ByteArray} {i : Nat} {z : Int} (hz : z = hv t i) (h1 : bat t i ≥ 97) : z * 16 + (bat t i - 97 + 10) = hv t (i + 1) := by
  rw [← hv_let hz h1]; omega
theorem lower_all : ∀ c : Fin 6, bits .or .u8 (((97 + c.val : Nat) : Int)) 32 = ((97 + c.val : Nat) : Int) := by decide +kernel
theorem lower_at {c : Int} (h : 97 ≤ c ∧ c ≤ 102) : bits .or .u8 c 32 = c := by
  obtain ⟨n, rfl⟩ := Int.eq_ofNat_of_zero_le (show 0 ≤ c by omega)
  have := lower_all ⟨n - 97, by omega⟩
  rwa [show 97 + (n - 97) = n from by omega] at this
theorem ne_empty {s : ByteArray} (h : 1 ≤ s.size) : (s == ⟨#[]⟩) = false := by
  rw [beqB_ne]
  rintro rfl
  exact absurd h (by decide)
theorem eqI_no {a b : Int} (h : a ≠ b) : (a == b) = false := by simpa using h
/-! The search for a module. -/
theorem idx_at {p : M → Bool} {l : List M} (h : ¬ idxF p l < 0) : ∃ i, i < l.length ∧ p l[i]! = true ∧ idxF p l = ((i : Nat) : Int) := by
  cases ha : l.any p with
  | false =>
    unfold idxF at h
    rw [ha, if_neg Bool.false_ne_true] at h
    exact absurd (show (-1 : Int) < 0 by decide) h
  | true =>
    have hlt : l.findIdx p < l.length := by
      rw [List.findIdx_lt_length]
      obtain ⟨x, hx, hp⟩ := List.any_eq_true.1 ha
      exact ⟨x, hx, hp⟩
    refine ⟨l.findIdx p, hlt, ?_, by unfold idxF; rw [ha, if_pos rfl]⟩
    rw [getElem!_pos l _ hlt]
    exact List.findIdx_getElem
theorem idx_no {p : M → Bool} {l : List M} (h : idxF p l < 0) : ∀ j, j < l.length → p l[j]! = false := by
  intro j hj
  cases hp : p l[j]! with
  | false => rfl
  | true =>
    have ha : l.any p = true := List.any_eq_true.2 ⟨_, bang_mem hj, hp⟩
    unfold idxF at h
    rw [ha, if_pos rfl] at h
    omega
theorem fr_none {l : List M} {q : Int} (h : idxF (fun x => inM x q) l < 0) : fr q (modT l q l.length) = (⟨#[]⟩, 0, false) := by
  rw [modT_none (idx_no h)]; rfl
theorem fr_miss {l : List M} {q : Int} {i : Nat} (hV : Vals l) (hi : i < l.length) (hin : inM l[i]! q = true) (h : lastT l[i]!.l (q - l[i]!.b) l[i]!.l.length = none) : fr q (modT l q l.length) = (⟨#[]⟩, 0, false) := by
  rw [modT_at hi hin (vals_one hV hi hin), h]; rfl
theorem fr_hit {l : List M} {q : Int} {i : Nat} {s : S} (hV : Vals l) (hi : i < l.length) (hin : inM l[i]! q = true) (h : lastT l[i]!.l (q - l[i]!.b) l[i]!.l.length = some s) : fr q (modT l q l.length) = (l[i]!.nm ++ ⟨#[58]⟩ ++ s.nm, q - l[i]!.b - s.o, true) := by
  rw [modT_at hi hin (vals_one hV hi hin), h]
  show (nm2 l[i]! s, q - (l[i]!.b + s.o), true) = _
  unfold nm2
  congr 2; omega
theorem sym_rng {l : List M} (hV : Vals l) {i : Nat} (hi : i < l.length) (x : Nat) : 0 ≤ l[i]!.l[x]!.o ∧ l[i]!.l[x]!.o ≤ 1000000000000000 ∧ l[i]!.l[x]!.nm.size ≤ 40 := by
  have hv := hV i hi
  by_cases hx : x < l[i]!.l.length
  · have := hv.sym x hx
    have := hv.rng
    have h3 := (hv.sym x hx).1
    exact ⟨by omega, by omega, h3.2.1⟩
  · have e : l[i]!.l[x]! = default := by
      rw [List.getElem!_eq_getElem?_getD, List.getElem?_eq_none (by omega)]; rfl
    rw [e]; exact ⟨Int.le_refl 0, (show (0 : Int) ≤ 1000000000000000 by decide), (show (0 : Nat) ≤ 40 by decide)⟩
theorem app_size (a b : ByteArray) : (a ++ b).size = a.size + b.size := ByteArray.size_append
end Sy
end Go.Proofs.YtghfncgciaiofaaDoor
