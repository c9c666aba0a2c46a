/- Where an address lies, and frames, in plain terms. Conditions: none. -/
import Derived.Test.YtghfncgciaiofaaDoorSyAdr
namespace Go.Proofs.YtghfncgciaiofaaDoor
open Go Go.Eng
namespace Sy
variable {l : List M} {q : Int} {i k : Nat}
/-- What is found among the first i modules and the first k symbols of the next. -/
def curT (l : List M) (q : Int) (i k : Nat) : Option (M × S) :=
  match (if inM l[i]! q then lastT l[i]!.l (q - l[i]!.b) k else none) with
  | some s => some (l[i]!, s)
  | none => modT l q i
theorem cur_zero : curT l q i 0 = modT l q i := by
  unfold curT
  cases inM l[i]! q <;> rfl
theorem cur_hit (h : inM l[i]! q = true) (ho : l[i]!.l[k]!.o ≤ q - l[i]!.b) : curT l q i (k + 1) = some (l[i]!, l[i]!.l[k]!) := by
  unfold curT
  rw [if_pos h]
  simp only [lastT]
  rw [if_pos ho]
theorem cur_miss (h : inM l[i]! q = true) (ho : ¬ l[i]!.l[k]!.o ≤ q - l[i]!.b) : curT l q i (k + 1) = curT l q i k := by
  unfold curT
  rw [if_pos h, if_pos h]
  simp only [lastT]
  rw [if_neg ho]
theorem cur_end (h : inM l[i]! q = true → k = l[i]!.l.length) : modT l q (i + 1) = curT l q i k := by
  unfold curT
  cases hi : inM l[i]! q with
  | false => exact modT_out hi
  | true => rw [modT_in hi, h hi]; rfl
def nmT : Option (M × S) → ByteArray
  | none => ⟨#[]⟩
  | some x => nm2 x.1 x.2
def atT : Option (M × S) → Int
  | none => 0
  | some x => x.1.b + x.2.o
theorem fr_some {T : Option (M × S)} (h : T.isSome = true) : fr q T = (nmT T, q - atT T, true) := by
  cases T with
  | none => cases h
  | some x => rfl
theorem fr_no {T : Option (M × S)} (h : T.isSome = false) : fr q T = (⟨#[]⟩, 0, false) := by
  cases T with
  | none => rfl
  | some x => cases h
theorem mod_at (hV : Vals l) : ∀ n, n ≤ l.length → (modT l q n).isSome = true → 0 ≤ atT (modT l q n) ∧ atT (modT l q n) ≤ q
  | 0, _, h => by cases h
  | n + 1, hn, h => by
    cases hi : inM l[n]! q with
    | false => rw [modT_out hi] at h ⊢; exact mod_at hV n (by omega) h
    | true =>
      cases hl : lastT l[n]!.l (q - l[n]!.b) l[n]!.l.length with
      | none =>
        have e : modT l q (n + 1) = modT l q n := by rw [modT_in hi, hl]
        rw [e] at h ⊢; exact mod_at hV n (by omega) h
      | some s =>
        have e : modT l q (n + 1) = some (l[n]!, s) := by rw [modT_in hi, hl]
        rw [e]
        obtain ⟨k, h1, h2, h3⟩ := lastT_mem (Nat.le_refl _) hl
        have h5 := (hV n (by omega)).rng
        simp only [atT]
        have h4 := sym_rng hV (show n < l.length by omega) k
        rw [← h2] at h4
        omega
theorem fnd_bad (h : chkE l ≠ 0) : fnd l q = (⟨#[]⟩, 0, false) := by unfold fnd; rw [if_pos h]
theorem fnd_ok (h : chkE l = 0) : fnd l q = fr q (modT l q l.length) := by unfold fnd; rw [if_neg (by rw [h]; simp)]
/-! ### Frames -/
theorem adr_rng (s : ByteArray) : 0 ≤ (adr s).1 ∧ (adr s).1 ≤ 281474976710655 := by
  cases h : preB s with
  | true => rw [adr_pre h]; exact ⟨Int.le_refl 0, by decide⟩
  | false =>
    by_cases hh : AllHex (tl s) (s.size - 2)
    · rw [adr_ok h hh]
      exact hv_rng hh (by have := pre_size h; omega)
    · unfold adr
      rw [if_pos (.inr hh)]
      exact ⟨Int.le_refl 0, by decide⟩
noncomputable def frm1 (l : List M) (s : ByteArray) : ByteArray :=
  if ((adr s).2 && ((fr (adr s).1 (modT l (adr s).1 l.length)).2.2 && decide ((((fr (adr s).1 (modT l (adr s).1 l.length)).1.size : Nat) : Int) ≤ 40))) = true then (fr (adr s).1 (modT l (adr s).1 l.length)).1 else s
theorem frm1_no {s : ByteArray} (h : (adr s).2 = false) : frm1 l s = s := by unfold frm1; rw [h]; rfl
theorem frm1_yes {s : ByteArray} (h : (adr s).2 = true) (h2 : ((fr (adr s).1 (modT l (adr s).1 l.length)).2.2 && decide ((((fr (adr s).1 (modT l (adr s).1 l.length)).1.size : Nat) : Int) ≤ 40)) = true) : frm1 l s = (fr (adr s).1 (modT l (adr s).1 l.length)).1 := by
  unfold frm1; rw [h, h2]; rfl
theorem frm1_not {s : ByteArray} (h2 : ((fr (adr s).1 (modT l (adr s).1 l.length)).2.2 && decide ((((fr (adr s).1 (modT l (adr s).1 l.length)).1.size : Nat) : Int) ≤ 40)) = false) : frm1 l s = s := by
  unfold frm1; rw [h2, Bool.and_false]; rfl
noncomputable def frm (l : List M) (s : ByteArray) : ByteArray := if chkE l ≠ 0 then s else frm1 l s
theorem frm_bad {s : ByteArray} (h : chkE l ≠ 0) : frm l s = s := by unfold frm; rw [if_pos h]
theorem frm_ok {s : ByteArray} (h : chkE l = 0) : frm l s = frm1 l s := by unfold frm; rw [if_neg (by rw [h]; simp)]
theorem frm_no {s : ByteArray} (h : (adr s).2 = false) : frm l s = s := by
  unfold frm
  split
  · rfl
  · exact frm1_no h
theorem frm_not {s : ByteArray} (h : (!(fnd l (adr s).1).2.2 || decide ((((fnd l (adr s).1).1.size : Nat) : Int) > 40)) = true) : frm l s = s := by
  by_cases hc : chkE l = 0
  · rw [frm_ok hc]
    rw [fnd_ok hc] at h
    refine frm1_not ?_
    simp only [Bool.or_eq_true, Bool.not_eq_true', decide_eq_true_eq] at h
    simp only [Bool.and_eq_false_iff, decide_eq_false_iff_not]
    rcases h with h | h
    · exact .inl h
    · exact .inr (by omega)
  · exact frm_bad hc
theorem frm_yes {s : ByteArray} (h0 : (adr s).2 = true) (h : (!(fnd l (adr s).1).2.2 || decide ((((fnd l (adr s).1).1.size : Nat) : Int) > 40)) = false) : frm l s = (fnd l (adr s).1).1 := by
  simp only [Bool.or_eq_false_iff, Bool.not_eq_false', decide_eq_false_iff_not] at h
  by_cases hc : chkE l = 0
  · rw [frm_ok hc]
    rw [fnd_ok hc] at h ⊢
    refine frm1_yes h0 ?_
    simp only [Bool.and_eq_true, decide_eq_true_eq]
    exact ⟨h.1, by omega⟩
  · rw [fnd_bad hc] at h
    exact absurd h.1 (by decide)
end Sy
end Go.Proofs.YtghfncgciaiofaaDoor
