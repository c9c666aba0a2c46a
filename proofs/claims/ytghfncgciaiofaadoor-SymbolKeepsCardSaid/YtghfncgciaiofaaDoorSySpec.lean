/- Modules and their symbols in plain Lean: names, checks, the function that contains an address. Conditions: none. -/
import Derived.Test.YtghfncgciaiofaaDoorStr
import Derived.Test.YtghfncgciaiofaaDoorNest
namespace Go.Proofs.YtghfncgciaiofaaDoor
open Go Go.Eng
namespace Sy
structure S where
  o : Int
  nm : ByteArray
instance : Inhabited S := ⟨⟨0, ⟨#[]⟩⟩⟩
def S.c (x : S) : List Value := [.int .i64 x.o, .string x.nm]
theorem S.one (x : S) : ∀ u ∈ x.c, u.oneCell' = true := by simp [S.c, Value.oneCell']
structure M where
  nm : ByteArray
  b : Int
  s : Int
  A : Option Addr
  n : Nat
  c : Nat
  l : List S
instance : Inhabited M := ⟨⟨⟨#[]⟩, 0, 0, none, 0, 0, []⟩⟩
def M.v (x : M) : List Value := [.string x.nm, .int .i64 x.b, .int .i64 x.s, .slice x.A x.n x.c]
theorem M.one (x : M) : ∀ u ∈ x.v, u.oneCell' = true := by simp [M.v, Value.oneCell']
/-- What holds of each module in memory. -/
def Good (w : World) (l : List M) : Prop := ∀ x ∈ l, Ls w x.A x.n x.c S.c 2 x.l
theorem Good.ext {w w' : World} {l : List M} (h : Good w l) (x : Ext w w') : Good w' l := fun y hy => (h y hy).ext x
/-- Few modules of few symbols with short names, in range. -/
structure Few (l : List M) : Prop where
  n : l.length ≤ 70
  m : ∀ x ∈ l, x.n ≤ 60 ∧ x.nm.size ≤ 100 ∧ x.l.length = x.n
  s : ∀ x ∈ l, ∀ y ∈ x.l, y.nm.size ≤ 100
/-! ### The first error of several -/
def fst (g : Nat → Int) : Nat → Int
  | 0 => 0
  | k + 1 => if fst g k ≠ 0 then fst g k else g k
theorem fst_none {g : Nat → Int} : ∀ {n : Nat}, (∀ j, j < n → g j = 0) → fst g n = 0
  | 0, _ => rfl
  | k + 1, h => by
    have := fst_none (n := k) fun j hj => h j (by omega)
    simp only [fst, this, ne_eq, not_true_eq_false, if_false]
    exact h k (by omega)
theorem fst_keep {g : Nat → Int} {i : Nat} : ∀ {n : Nat}, i ≤ n → fst g i ≠ 0 → fst g n = fst g i
  | n, hn, h => by
    rcases Nat.lt_or_eq_of_le hn with hlt | rfl
    · obtain ⟨k, rfl⟩ : ∃ k, n = k + 1 := ⟨n - 1, by omega⟩
      have := fst_keep (n := k) (by omega) h
      simp only [fst, this, ne_eq, h, not_false_eq_true, if_true]
    · rfl
theorem fst_hit {g : Nat → Int} {i n : Nat} (hi : i < n) (hb : ∀ j, j < i → g j = 0) (h : g i ≠ 0) : fst g n = g i := by
  have e : fst g (i + 1) = g i := by
    have := fst_none hb
    simp only [fst, this, ne_eq, not_true_eq_false, if_false]
  rw [fst_keep (i := i + 1) (by omega) (by rw [e]; exact h), e]
theorem fst_zero {g : Nat → Int} : ∀ {n : Nat}, fst g n = 0 → ∀ j, j < n → g j = 0
  | k + 1, h, j, hj => by
    simp only [fst] at h
    by_cases h0 : fst g k = 0
    · rw [h0] at h
      simp only [ne_eq, not_true_eq_false, if_false] at h
      rcases Nat.lt_succ_iff_lt_or_eq.1 hj with hj | rfl
      · exact fst_zero h0 j hj
      · exact h
    · simp only [ne_eq, h0, not_false_eq_true, if_true] at h
/-! ### Names -/
def letB (c : Int) : Bool := ((decide (c ≥ 97) && decide (c ≤ 122)) || (decide (c ≥ 65) && decide (c ≤ 90))) || (decide (c ≥ 48) && decide (c ≤ 57)) || ([95, 46, 58, 47, 60, 62, 36, 42, 126, 45] : List Int).contains c
def okN (s : ByteArray) : Prop := 1 ≤ s.size ∧ s.size ≤ 40 ∧ ∀ j, j < s.size → letB (bat s j) = true
open Classical in
noncomputable def nmE (s : ByteArray) : Int := if okN s then 0 else 3
theorem nmE_ok {s : ByteArray} (h : okN s) : nmE s = 0 := by unfold nmE; rw [if_pos h]
theorem nmE_no {s : ByteArray} (h : ¬ okN s) : nmE s = 3 := by unfold nmE; rw [if_neg h]
theorem nmE_zero {s : ByteArray} (h : nmE s = 0) : okN s := by
  by_cases hk : okN s
  · exact hk
  · rw [nmE_no hk] at h; cases h
theorem nmE_short {s : ByteArray} (h : s.size < 1 ∨ 40 < s.size) : nmE s = 3 := nmE_no fun q => by have := q.1; have := q.2.1; omega
theorem nmE_bad {s : ByteArray} {i : Nat} (hi : i < s.size) (h : letB (bat s i) = false) : nmE s = 3 := nmE_no fun q => by rw [q.2.2 i hi] at h; cases h
theorem nmE_cases (s : ByteArray) : nmE s = 0 ∨ nmE s = 3 := by
  by_cases hk : okN s
  · exact .inl (nmE_ok hk)
  · exact .inr (nmE_no hk)
/-! ### Checks -/
noncomputable def symE (sz : Int) (l : List S) (i : Nat) : Int :=
  if nmE l[i]!.nm ≠ 0 then nmE l[i]!.nm else if l[i]!.o < 0 ∨ sz ≤ l[i]!.o then 2 else if 0 < i ∧ l[i]!.o ≤ l[i - 1]!.o then 11 else 0
noncomputable def symsE (sz : Int) (l : List S) : Int := fst (symE sz l) l.length
def rngB (m : M) : Bool := (((decide (m.b < 0) || decide (m.b > 1000000000000000)) || decide (m.s < 1)) || decide (m.s > 1000000000000000)) || decide (m.b + m.s > 1000000000000000)
noncomputable def modE (m : M) (at_ : Int) : Int := if nmE m.nm ≠ 0 then nmE m.nm else if rngB m then 2 else if m.b < at_ then 11 else symsE m.s m.l
def befo (l : List M) (i : Nat) : Int := if i = 0 then 0 else l[i - 1]!.b + l[i - 1]!.s
noncomputable def chk1 (l : List M) (i : Nat) : Int := modE l[i]! (befo l i)
def tot (l : List M) : Nat → Nat
  | 0 => 0
  | i + 1 => tot l i + l[i]!.n
def many (l : List M) : Bool := decide (64 < l.length) || decide (500 < tot l l.length)
noncomputable def chkE (l : List M) : Int := if many l then 7 else fst (chk1 l) l.length
theorem tot_le {l : List M} (h : Few l) : ∀ i, i ≤ l.length → tot l i ≤ 60 * i
  | 0, _ => by simp [tot]
  | i + 1, hi => by
    have h1 := tot_le h i (by omega)
    have h2 := (h.m l[i]! (bang_mem (by omega))).1
    simp only [tot]; omega
theorem chk_many {l : List M} (h : many l = true) : chkE l = 7 := by unfold chkE; rw [h]; rfl
theorem chk_few {l : List M} (h : many l = false) : chkE l = fst (chk1 l) l.length := by unfold chkE; rw [h]; rfl
/-! The ways through a symbol. -/
section
variable {sz : Int} {l : List S} {i : Nat}
theorem symE_nm (h : nmE l[i]!.nm ≠ 0) : symE sz l i = nmE l[i]!.nm := by unfold symE; rw [if_pos h]
theorem symE_rng (h : nmE l[i]!.nm = 0) (h2 : l[i]!.o < 0 ∨ sz ≤ l[i]!.o) : symE sz l i = 2 := by unfold symE; rw [if_neg (by rw [h]; simp), if_pos h2]
theorem symE_ord (h : nmE l[i]!.nm = 0) (h2 : ¬ (l[i]!.o < 0 ∨ sz ≤ l[i]!.o)) (h3 : 0 < i ∧ l[i]!.o ≤ l[i - 1]!.o) : symE sz l i = 11 := by unfold symE; rw [if_neg (by rw [h]; simp), if_neg h2, if_pos h3]
theorem symE_ok (h : nmE l[i]!.nm = 0) (h2 : ¬ (l[i]!.o < 0 ∨ sz ≤ l[i]!.o)) (h3 : ¬ (0 < i ∧ l[i]!.o ≤ l[i - 1]!.o)) : symE sz l i = 0 := by unfold symE; rw [if_neg (by rw [h]; simp), if_neg h2, if_neg h3]
theorem symE_zero (h : symE sz l i = 0) : nmE l[i]!.nm = 0 ∧ 0 ≤ l[i]!.o ∧ l[i]!.o < sz ∧ (0 < i → l[i - 1]!.o < l[i]!.o) := by
  unfold symE at h
  split at h
  · rename_i h1; exact absurd h h1
  · rename_i h1
    split at h
    · cases h
    · rename_i h2
      split at h
      · cases h
      · rename_i h3
        have h4 : nmE l[i]!.nm = 0 := Classical.not_not.1 h1
        exact ⟨h4, by omega, by omega, by omega⟩
end
section
variable {m : M} {a : Int}
theorem modE_nm (h : nmE m.nm ≠ 0) : modE m a = nmE m.nm := by unfold modE; rw [if_pos h]
theorem modE_rng (h : nmE m.nm = 0) (h2 : rngB m = true) : modE m a = 2 := by unfold modE; rw [if_neg (by rw [h]; simp), if_pos h2]
theorem modE_ord (h : nmE m.nm = 0) (h2 : rngB m = false) (h3 : m.b < a) : modE m a = 11 := by unfold modE; rw [if_neg (by rw [h]; simp), if_neg (by rw [h2]; simp), if_pos h3]
theorem modE_sym (h : nmE m.nm = 0) (h2 : rngB m = false) (h3 : ¬ m.b < a) : modE m a = symsE m.s m.l := by unfold modE; rw [if_neg (by rw [h]; simp), if_neg (by rw [h2]; simp), if_neg h3]
theorem rng_no (h : rngB m = false) : 0 ≤ m.b ∧ m.b ≤ 1000000000000000 ∧ 1 ≤ m.s ∧ m.s ≤ 1000000000000000 ∧ m.b + m.s ≤ 1000000000000000 := by
  unfold rngB at h
  simp only [Bool.or_eq_false_iff, decide_eq_false_iff_not] at h
  omega
/-- A valid module. -/
structure Val (m : M) (a : Int) : Prop where
  nm : okN m.nm
  rng : 0 ≤ m.b ∧ m.b ≤ 1000000000000000 ∧ 1 ≤ m.s ∧ m.s ≤ 1000000000000000 ∧ m.b + m.s ≤ 1000000000000000
  at_ : a ≤ m.b
  sym : ∀ i, i < m.l.length → okN m.l[i]!.nm ∧ 0 ≤ m.l[i]!.o ∧ m.l[i]!.o < m.s ∧ (0 < i → m.l[i - 1]!.o < m.l[i]!.o)
theorem modE_val (h : modE m a = 0) : Val m a := by
  by_cases h1 : nmE m.nm = 0
  · cases h2 : rngB m with
    | true => rw [modE_rng h1 h2] at h; cases h
    | false =>
      by_cases h3 : m.b < a
      · rw [modE_ord h1 h2 h3] at h; cases h
      · rw [modE_sym h1 h2 h3] at h
        refine ⟨nmE_zero h1, rng_no h2, by omega, fun i hi => ?_⟩
        obtain ⟨g1, g2, g3, g4⟩ := symE_zero (fst_zero h i hi)
        exact ⟨nmE_zero g1, g2, g3, g4⟩
  · rw [modE_nm h1] at h; exact absurd h h1
end
/-- Valid modules: each valid, one behind the other. -/
def Vals (l : List M) : Prop := ∀ i, i < l.length → Val l[i]! (befo l i)
theorem chk_vals {l : List M} (h : chkE l = 0) : Vals l := by
  intro i hi
  cases hm : many l with
  | true => rw [chk_many hm] at h; cases h
  | false =>
    rw [chk_few hm] at h
    exact modE_val (fst_zero h i hi)
theorem vals_lt {l : List M} (h : Vals l) {i : Nat} : ∀ {j : Nat}, i < j → j < l.length → l[i]!.b + l[i]!.s ≤ l[j]!.b
  | j, hij, hj => by
    have h1 := (h j hj).at_
    unfold befo at h1
    rw [if_neg (by omega)] at h1
    rcases Nat.lt_or_eq_of_le (show i ≤ j - 1 by omega) with hlt | rfl
    · have h2 := vals_lt h (j := j - 1) hlt (by omega)
      have h3 := (h (j - 1) (by omega)).rng
      omega
    · exact h1
/-! ### The function that contains an address -/
/-- The last of the first k symbols that does not begin behind d. -/
def lastT (l : List S) (d : Int) : Nat → Option S
  | 0 => none
  | k + 1 => if l[k]!.o ≤ d then some l[k]! else lastT l d k
theorem lastT_hit {l : List S} {d : Int} {k : Nat} (h : l[k]!.o ≤ d) : ∀ {n : Nat}, k < n → (∀ j, k < j → j < n → ¬ l[j]!.o ≤ d) → lastT l d n = some l[k]!
  | n + 1, hn, hb => by
    simp only [lastT]
    rcases Nat.lt_or_eq_of_le (show k ≤ n by omega) with hlt | rfl
    · rw [if_neg (hb n hlt (by omega))]
      exact lastT_hit h hlt fun j h1 h2 => hb j h1 (by omega)
    · rw [if_pos h]
theorem lastT_none {l : List S} {d : Int} : ∀ {n : Nat}, (∀ j, j < n → ¬ l[j]!.o ≤ d) → lastT l d n = none
  | 0, _ => rfl
  | n + 1, hb => by
    simp only [lastT]
    rw [if_neg (hb n (by omega))]
    exact lastT_none fun j hj => hb j (by omega)
theorem lastT_mem {l : List S} {d : Int} {s : S} : ∀ {n : Nat}, n ≤ l.length → lastT l d n = some s → ∃ k, k < n ∧ s = l[k]! ∧ s.o ≤ d
  | n + 1, hn, h => by
    simp only [lastT] at h
    split at h
    · rename_i h1; injection h with h; subst h; exact ⟨n, by omega, rfl, h1⟩
    · obtain ⟨k, h1, h2⟩ := lastT_mem (n := n) (by omega) h; exact ⟨k, by omega, h2⟩
def inM (m : M) (a : Int) : Bool := decide (m.b ≤ a) && decide (a < m.b + m.s)
/-- The module and the symbol, among the first i modules. -/
def modT (l : List M) (a : Int) : Nat → Option (M × S)
  | 0 => none
  | i + 1 => match (if inM l[i]! a then lastT l[i]!.l (a - l[i]!.b) l[i]!.l.length else none) with
    | some s => some (l[i]!, s)
    | none => modT l a i
theorem modT_out {l : List M} {a : Int} {i : Nat} (h : inM l[i]! a = false) : modT l a (i + 1) = modT l a i := by
  simp only [modT, h]; rfl
theorem modT_in {l : List M} {a : Int} {i : Nat} (h : inM l[i]! a = true) : modT l a (i + 1) = match lastT l[i]!.l (a - l[i]!.b) l[i]!.l.length with
    | some s => some (l[i]!, s)
    | none => modT l a i := by simp only [modT, h, if_true]
theorem modT_none {l : List M} {a : Int} : ∀ {n : Nat}, (∀ j, j < n → inM l[j]! a = false) → modT l a n = none
  | 0, _ => rfl
  | n + 1, h => by rw [modT_out (h n (by omega)), modT_none fun j hj => h j (by omega)]
theorem modT_at {l : List M} {a : Int} {i : Nat} : ∀ {n : Nat}, i < n → inM l[i]! a = true → (∀ j, j < n → j ≠ i → inM l[j]! a = false) → modT l a n = (lastT l[i]!.l (a - l[i]!.b) l[i]!.l.length).map fun s => (l[i]!, s)
  | n + 1, hi, h, hb => by
    rcases Nat.lt_or_eq_of_le (show i ≤ n by omega) with hlt | rfl
    · rw [modT_out (hb n (by omega) (by omega))]
      exact modT_at hlt h fun j hj hne => hb j (by omega) hne
    · rw [modT_in h, modT_none fun j hj => hb j (by omega) (by omega)]
      cases lastT l[i]!.l (a - l[i]!.b) l[i]!.l.length <;> rfl
theorem vals_one {l : List M} (h : Vals l) {a : Int} {i : Nat} (hi : i < l.length) (hin : inM l[i]! a = true) : ∀ j, j < l.length → j ≠ i → inM l[j]! a = false := by
  intro j hj hne
  unfold inM at hin ⊢
  simp only [Bool.and_eq_true, decide_eq_true_eq] at hin
  simp only [Bool.and_eq_false_iff, decide_eq_false_iff_not]
  rcases Nat.lt_or_gt_of_ne hne with hlt | hgt
  · have := vals_lt h hlt hi; omega
  · have := vals_lt h hgt hj; omega
def nm2 (m : M) (s : S) : ByteArray := m.nm ++ ⟨#[58]⟩ ++ s.nm
def fr (a : Int) : Option (M × S) → ByteArray × Int × Bool
  | some (m, s) => (nm2 m s, a - (m.b + s.o), true)
  | none => (⟨#[]⟩, 0, false)
noncomputable def fnd (l : List M) (a : Int) : ByteArray × Int × Bool := if chkE l ≠ 0 then (⟨#[]⟩, 0, false) else fr a (modT l a l.length)
end Sy
end Go.Proofs.YtghfncgciaiofaaDoor
