/- Samples in plain Lean: checks, sameness, what becomes of their frames. Conditions: none. -/
import Derived.Test.YtghfncgciaiofaaDoorSyFr
namespace Go.Proofs.YtghfncgciaiofaaDoor
open Go Go.Eng
namespace Sy
def sc (s : ByteArray) : List Value := [.string s]
theorem sc_one (s : ByteArray) : ∀ u ∈ sc s, u.oneCell' = true := by simp [sc, Value.oneCell']
structure P where
  th : Int
  at_ : Int
  wt : Int
  A : Option Addr
  n : Nat
  c : Nat
  l : List ByteArray
instance : Inhabited P := ⟨⟨0, 0, 0, none, 0, 0, []⟩⟩
def P.v (x : P) : List Value := [.int .i64 x.th, .int .i64 x.at_, .int .i64 x.wt, .slice x.A x.n x.c]
theorem P.one (x : P) : ∀ u ∈ x.v, u.oneCell' = true := by simp [P.v, Value.oneCell']
def GoodP (w : World) (l : List P) : Prop := ∀ x ∈ l, Ls w x.A x.n x.c sc 1 x.l
theorem GoodP.ext {w w' : World} {l : List P} (h : GoodP w l) (x : Ext w w') : GoodP w' l := fun y hy => (h y hy).ext x
structure FewP (l : List P) : Prop where
  n : l.length ≤ 40
  m : ∀ x ∈ l, x.n ≤ 60 ∧ x.l.length = x.n
  s : ∀ x ∈ l, ∀ y ∈ x.l, y.size ≤ 200
theorem fewP_of {l : List P} (h : l.length ≤ 40) (hm : ∀ i, i < l.length → l[i]!.n ≤ 60 ∧ l[i]!.l.length = l[i]!.n ∧ ∀ k, k < l[i]!.n → l[i]!.l[k]!.size ≤ 200) : FewP l := by
  have at_ : ∀ x ∈ l, ∃ i, i < l.length ∧ x = l[i]! := fun x hx => by
    obtain ⟨i, hi, rfl⟩ := List.mem_iff_getElem.1 hx
    exact ⟨i, hi, (getElem!_pos l i hi).symm⟩
  refine ⟨h, fun x hx => ?_, fun x hx y hy => ?_⟩
  · obtain ⟨i, hi, rfl⟩ := at_ x hx
    exact ⟨(hm i hi).1, (hm i hi).2.1⟩
  · obtain ⟨i, hi, rfl⟩ := at_ x hx
    obtain ⟨k, hk, rfl⟩ := List.mem_iff_getElem.1 hy
    have := (hm i hi).2.2 k (by rw [← (hm i hi).2.1]; exact hk)
    rwa [getElem!_pos _ k hk] at this
/-! ### Checks -/
def okP (x : P) : Bool := ((((decide (x.th ≥ 0) && decide (x.th ≤ 1000000000000000)) && decide (x.at_ ≥ 0)) && decide (x.at_ ≤ 1000000000000)) && decide (x.wt ≥ 1)) && decide (x.wt ≤ 1000000000000)
theorem okP_rng {x : P} (h : okP x = true) : 0 ≤ x.th ∧ x.th ≤ 1000000000000000 ∧ 0 ≤ x.at_ ∧ x.at_ ≤ 1000000000000 ∧ 1 ≤ x.wt ∧ x.wt ≤ 1000000000000 := by
  unfold okP at h
  simp only [Bool.and_eq_true, decide_eq_true_eq] at h
  omega
noncomputable def frsE (l : List ByteArray) : Int := if 32 < l.length then 7 else fst (fun j => nmE l[j]!) l.length
theorem frs_long {l : List ByteArray} (h : 32 < l.length) : frsE l = 7 := by unfold frsE; rw [if_pos h]
theorem frs_at {l : List ByteArray} (h : ¬ 32 < l.length) : frsE l = fst (fun j => nmE l[j]!) l.length := by unfold frsE; rw [if_neg h]
theorem frs_hit {l : List ByteArray} {i : Nat} (h : ¬ 32 < l.length) (hi : i < l.length) (hb : ∀ j, j < i → nmE l[j]! = 0) (hn : nmE l[i]! ≠ 0) : frsE l = nmE l[i]! := by rw [frs_at h, fst_hit hi hb hn]
theorem frs_ok {l : List ByteArray} (h : ¬ 32 < l.length) (hb : ∀ j, j < l.length → nmE l[j]! = 0) : frsE l = 0 := by rw [frs_at h, fst_none hb]
noncomputable def smp1 (l : List P) (i : Nat) : Int := if okP l[i]! = false then 2 else if frsE l[i]!.l ≠ 0 then frsE l[i]!.l else if 0 < i ∧ l[i]!.at_ < l[i - 1]!.at_ then 11 else 0
noncomputable def smpE (l : List P) : Int := fst (smp1 l) l.length
section
variable {l : List P} {i : Nat}
theorem smp1_bad (h : okP l[i]! = false) : smp1 l i = 2 := by unfold smp1; rw [if_pos h]
theorem smp1_frs (h : okP l[i]! = true) (h2 : frsE l[i]!.l ≠ 0) : smp1 l i = frsE l[i]!.l := by unfold smp1; rw [if_neg (by rw [h]; simp), if_pos h2]
theorem smp1_ord (h : okP l[i]! = true) (h2 : frsE l[i]!.l = 0) (h3 : 0 < i ∧ l[i]!.at_ < l[i - 1]!.at_) : smp1 l i = 11 := by unfold smp1; rw [if_neg (by rw [h]; simp), if_neg (by rw [h2]; simp), if_pos h3]
theorem smp1_ok (h : okP l[i]! = true) (h2 : frsE l[i]!.l = 0) (h3 : ¬ (0 < i ∧ l[i]!.at_ < l[i - 1]!.at_)) : smp1 l i = 0 := by unfold smp1; rw [if_neg (by rw [h]; simp), if_neg (by rw [h2]; simp), if_neg h3]
theorem smp1_zero (h : smp1 l i = 0) : okP l[i]! = true ∧ frsE l[i]!.l = 0 ∧ ¬ (0 < i ∧ l[i]!.at_ < l[i - 1]!.at_) := by
  unfold smp1 at h
  split at h
  · cases h
  · rename_i h1
    split at h
    · rename_i h2; exact absurd h h2
    · rename_i h2
      split at h
      · cases h
      · rename_i h3
        exact ⟨by simpa using h1, Classical.not_not.1 h2, h3⟩
theorem smp_hit (hi : i < l.length) (hb : ∀ j, j < i → smp1 l j = 0) {z : Int} (h : smp1 l i = z) (hz : z ≠ 0) : smpE l = z := by
  unfold smpE; rw [fst_hit hi hb (by rw [h]; exact hz), h]
theorem smp_ok (hb : ∀ j, j < l.length → smp1 l j = 0) : smpE l = 0 := fst_none hb
end
/-! ### Sameness -/
def P.key (x : P) : Int × Int × Int × List ByteArray := (x.th, x.at_, x.wt, x.l)
theorem key_at {a b : List P} (h : a.map P.key = b.map P.key) {i : Nat} (hi : i < a.length) : a[i]!.th = b[i]!.th ∧ a[i]!.at_ = b[i]!.at_ ∧ a[i]!.wt = b[i]!.wt ∧ a[i]!.l = b[i]!.l := by
  have hl : a.length = b.length := by simpa using congrArg List.length h
  have h1 : (a.map P.key)[i]? = (b.map P.key)[i]? := by rw [h]
  rw [List.getElem?_map, List.getElem?_map, List.getElem?_eq_getElem hi, List.getElem?_eq_getElem (by omega)] at h1
  rw [getElem!_pos a i hi, getElem!_pos b i (by omega)]
  simp only [Option.map_some, Option.some.injEq, P.key, Prod.mk.injEq] at h1
  exact h1
theorem key_len {a b : List P} (h : a.map P.key = b.map P.key) : a.length = b.length := by simpa using congrArg List.length h
/-! ### What becomes of samples -/
noncomputable def sE (l : List M) (s : List P) : Int := if chkE l ≠ 0 then chkE l else smpE s
theorem sE_mod {l : List M} {s : List P} (h : chkE l ≠ 0) : sE l s = chkE l := by unfold sE; rw [if_pos h]
theorem sE_smp {l : List M} {s : List P} (h : chkE l = 0) : sE l s = smpE s := by unfold sE; rw [if_neg (by rw [h]; simp)]
noncomputable def out (l : List M) (x : P) : Int × Int × Int × List ByteArray := (x.th, x.at_, x.wt, x.l.map (frm l))
/-- b are the samples s, their frames named. -/
def Res (l : List M) (s b : List P) : Prop := b.map P.key = if sE l s ≠ 0 then [] else s.map (out l)
theorem res_bad {l : List M} {s : List P} (h : sE l s ≠ 0) : Res l s [] := by unfold Res; rw [if_pos h]; rfl
theorem res_ok {l : List M} {s b : List P} (h : sE l s = 0) (hb : b.map P.key = s.map (out l)) : Res l s b := by unfold Res; rw [if_neg (by rw [h]; simp)]; exact hb
theorem res_same {l : List M} {s b b' : List P} (h : Res l s b) (h' : Res l s b') : b.map P.key = b'.map P.key := h.trans h'.symm
/-! ### Weights -/
def totP (l : List P) : Nat → Int
  | 0 => 0
  | i + 1 => if okP l[i]! = true then min (totP l i + l[i]!.wt) 1000000000000000 else totP l i
theorem totP_rng (l : List P) : ∀ i, 0 ≤ totP l i ∧ totP l i ≤ 1000000000000000
  | 0 => ⟨Int.le_refl 0, (show (0 : Int) ≤ 1000000000000000 by decide)⟩
  | i + 1 => by
    have := totP_rng l i
    simp only [totP]
    split
    · rename_i h
      have := okP_rng h
      omega
    · exact this
theorem totP_yes {l : List P} {i : Nat} (h : okP l[i]! = true) : totP l (i + 1) = min (totP l i + l[i]!.wt) 1000000000000000 := by simp only [totP]; rw [if_pos h]
theorem totP_no {l : List P} {i : Nat} (h : okP l[i]! = false) : totP l (i + 1) = totP l i := by simp only [totP]; rw [if_neg (by rw [h]; simp)]
theorem totP_congr {a b : List P} : ∀ n, (∀ j, j < n → a[j]!.th = b[j]!.th ∧ a[j]!.at_ = b[j]!.at_ ∧ a[j]!.wt = b[j]!.wt) → totP a n = totP b n
  | 0, _ => rfl
  | n + 1, h => by
    have h1 := totP_congr n fun j hj => h j (by omega)
    have h2 := h n (by omega)
    have h3 : okP a[n]! = okP b[n]! := by unfold okP; rw [h2.1, h2.2.1, h2.2.2]
    simp only [totP, h1, h3, h2.2.2]
end Sy
end Go.Proofs.YtghfncgciaiofaaDoor
