/- The laws on places and names, in plain terms. Conditions: none. -/
import Derived.Test.YtghfncgciaiofaaDoorSyFr
namespace Go.Proofs.YtghfncgciaiofaaDoor
open Go Go.Eng
namespace Sy
variable {l : List M} {q : Int} {i k : Nat}
theorem sym_inc {m : M} {a : Int} (h : Val m a) {i : Nat} : ∀ {j : Nat}, i < j → j < m.l.length → m.l[i]!.o < m.l[j]!.o
  | j, hij, hj => by
    have h1 := (h.sym j hj).2.2.2 (by omega)
    rcases Nat.lt_or_eq_of_le (show i ≤ j - 1 by omega) with hlt | rfl
    · have := sym_inc h (j := j - 1) hlt (by omega)
      omega
    · exact h1
theorem inside (hV : Vals l) (hc : chkE l = 0) (hi : i < l.length) (hk : k < l[i]!.l.length) {f : Int} (h0 : 0 ≤ f) (h1 : l[i]!.l[k]!.o + f < l[i]!.s) (h2 : k + 1 < l[i]!.l.length → l[i]!.l[k]!.o + f < l[i]!.l[k + 1]!.o) (hq : q = l[i]!.b + l[i]!.l[k]!.o + f) : fnd l q = (l[i]!.nm ++ ⟨#[58]⟩ ++ l[i]!.l[k]!.nm, f, true) := by
  have hv := hV i hi
  have hs := hv.sym k hk
  have hin : inM l[i]! q = true := by
    unfold inM
    simp only [Bool.and_eq_true, decide_eq_true_eq]
    omega
  have hl : lastT l[i]!.l (q - l[i]!.b) l[i]!.l.length = some l[i]!.l[k]! := by
    refine lastT_hit (by omega) hk fun j hj hn => ?_
    rcases Nat.lt_or_eq_of_le (show k + 1 ≤ j by omega) with hlt | rfl
    · have := sym_inc hv hlt hn
      have := h2 (by omega)
      omega
    · have := h2 hn
      omega
  rw [fnd_ok hc, fr_hit hV hi hin hl]
  congr 2
  omega
theorem at_base (hV : Vals l) (hc : chkE l = 0) (hi : i < l.length) (hs : l[i]!.l.length = l[i]!.n) : (fnd l l[i]!.b).2.2 = (decide (((l[i]!.n : Nat) : Int) > 0) && (l[i]!.l[0]!.o == 0)) := by
  have hv := hV i hi
  have hr := hv.rng
  have hin : inM l[i]! l[i]!.b = true := by
    unfold inM
    simp only [Bool.and_eq_true, decide_eq_true_eq]
    omega
  rw [fnd_ok hc]
  by_cases h0 : 0 < l[i]!.n ∧ l[i]!.l[0]!.o = 0
  · have hl : lastT l[i]!.l (l[i]!.b - l[i]!.b) l[i]!.l.length = some l[i]!.l[0]! := by
      refine lastT_hit (by omega) (by omega) fun j hj hn => ?_
      have := sym_inc hv hj hn
      omega
    rw [fr_hit hV hi hin hl]
    have e1 : decide (((l[i]!.n : Nat) : Int) > 0) = true := decide_eq_true (by omega)
    have e2 : (l[i]!.l[0]!.o == 0) = true := by rw [h0.2]; rfl
    rw [e1, e2]; rfl
  · have hl : lastT l[i]!.l (l[i]!.b - l[i]!.b) l[i]!.l.length = none := by
      refine lastT_none fun j hj => ?_
      have h1 := hv.sym j hj
      have h2 := hv.sym 0 (by omega)
      have h3 : ¬ l[i]!.l[0]!.o = 0 := fun z => h0 ⟨by omega, z⟩
      rcases Nat.eq_zero_or_pos j with rfl | hp
      · omega
      · have := sym_inc hv hp hj
        omega
    rw [fr_miss hV hi hin hl]
    cases e1 : decide (((l[i]!.n : Nat) : Int) > 0) with
    | false => rfl
    | true =>
      have h1 := of_decide_eq_true e1
      have e2 : (l[i]!.l[0]!.o == 0) = false := by
        simpa using fun z => h0 ⟨by omega, z⟩
      rw [e2]; rfl
end Sy
end Go.Proofs.YtghfncgciaiofaaDoor
