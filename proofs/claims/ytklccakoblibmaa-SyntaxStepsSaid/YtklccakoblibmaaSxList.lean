/- Lists of names in plain terms. Conditions: none. -/
import Derived.Test.YtklccakoblibmaaSxChk
namespace Go.Proofs.Ytklccakoblibmaa
open Go Go.Eng
set_option linter.unusedSimpArgs false
namespace Sx
/-- The first error of several. -/
def fst (g : Nat → Int) : Nat → Int
  | 0 => 0
  | k + 1 => if fst g k ≠ 0 then fst g k else g k
theorem fst_none {g : Nat → Int} : ∀ {n : Nat}, (∀ j, j < n → g j = 0) → fst g n = 0
  | 0, _ => rfl
  | k + 1, h => by
    have := fst_none (n := k) fun j hj => h j (by omega)
    simp only [fst, this, ne_eq, not_true_eq_false, if_false]
    exact h k (by omega)
theorem fst_keep {g : Nat → Int} {i : Nat} : ∀ {n : Nat}, i ≤ n → fst g i ≠ 0 → fst g n = fst g i
  | n, hn, h => by
    rcases Nat.lt_or_eq_of_le hn with hlt | rfl
    · obtain ⟨k, rfl⟩ : ∃ k, n = k + 1 := ⟨n - 1, by omega⟩
      have := fst_keep (n := k) (by omega) h
      simp only [fst, this, ne_eq, h, not_false_eq_true, if_true]
    · rfl
theorem fst_hit {g : Nat → Int} {i n : Nat} (hi : i < n) (hb : ∀ j, j < i → g j = 0) (h : g i ≠ 0) : fst g n = g i := by
  have e : fst g (i + 1) = g i := by
    have := fst_none hb
    simp only [fst, this, ne_eq, not_true_eq_false, if_false]
  rw [fst_keep (i := i + 1) (by omega) (by rw [e]; exact h), e]
theorem fst_zero {g : Nat → Int} : ∀ {n : Nat}, fst g n = 0 → ∀ j, j < n → g j = 0
  | k + 1, h, j, hj => by
    simp only [fst] at h
    by_cases h0 : fst g k = 0
    · rw [h0] at h
      simp only [ne_eq, not_true_eq_false, if_false] at h
      rcases Nat.lt_succ_iff_lt_or_eq.1 hj with hj | rfl
      · exact fst_zero h0 j hj
      · exact h
    · simp only [ne_eq, h0, not_false_eq_true, if_true] at h
/-- The error of a further name. -/
def addE (u : List ByteArray) (s : ByteArray) : Int := if idB s = false then 3 else if inS u s = true then 4 else 0
theorem add_3 {u : List ByteArray} {s : ByteArray} (h : idB s = false) : addE u s = 3 := by unfold addE; rw [if_pos h]
theorem add_4 {u : List ByteArray} {s : ByteArray} (h : idB s = true) (h2 : inS u s = true) : addE u s = 4 := by unfold addE; rw [if_neg (by rw [h]; simp), if_pos h2]
theorem add_0 {u : List ByteArray} {s : ByteArray} (h : idB s = true) (h2 : inS u s = false) : addE u s = 0 := by unfold addE; rw [if_neg (by rw [h]; simp), if_neg (by rw [h2]; simp)]
def aldE (u t : List ByteArray) (i : Nat) : Int := addE (u ++ t.take i) t[i]!
/-- The error of further names. -/
def allE (u t : List ByteArray) : Int := fst (aldE u t) t.length
theorem all_hit {u t : List ByteArray} {i : Nat} (hi : i < t.length) (hb : ∀ j, j < i → aldE u t j = 0) (h : aldE u t i ≠ 0) : allE u t = aldE u t i := fst_hit hi hb h
theorem all_ok {u t : List ByteArray} (hb : ∀ j, j < t.length → aldE u t j = 0) : allE u t = 0 := fst_none hb
theorem take_len {t : List ByteArray} {i : Nat} (h : i ≤ t.length) : (t.take i).length = i := by rw [List.length_take]; omega
theorem take_bang {t : List ByteArray} {i j : Nat} (h : j < i) : (t.take i)[j]! = t[j]! := by
  rw [List.getElem!_eq_getElem?_getD, List.getElem!_eq_getElem?_getD, List.getElem?_take, if_pos h]
theorem ald_3 {t : List ByteArray} {i : Nat} (h : idB t[i]! = false) : aldE [] t i = 3 := add_3 h
theorem ald_4 {t : List ByteArray} {i k : Nat} (hi : i < t.length) (h : idB t[i]! = true) (hk : k < i) (h2 : (t[k]! == t[i]!) = true) : aldE [] t i = 4 := by
  refine add_4 h ?_
  rw [List.nil_append]
  refine inS_hit (i := k) (by rw [take_len (by omega)]; exact hk) ?_
  rw [take_bang hk, beqB_eq]
  exact (beqB_eq.1 h2).symm
theorem ald_0 {t : List ByteArray} {i : Nat} (hi : i < t.length) (h : idB t[i]! = true) (h2 : ∀ k, k < i → (t[k]! == t[i]!) = false) : aldE [] t i = 0 := by
  refine add_0 h ?_
  rw [List.nil_append]
  refine inS_no fun k hk => ?_
  rw [take_len (by omega)] at hk
  rw [take_bang hk, beqB_ne]
  exact fun e => beqB_ne.1 (h2 k hk) e.symm
def sizE (n least : Int) : Int := if n < least then 8 else if 16 < n then 7 else 0
theorem siz_8 {n l : Int} (h : n < l) : sizE n l = 8 := by unfold sizE; rw [if_pos h]
theorem siz_7 {n l : Int} (h : ¬ n < l) (h2 : 16 < n) : sizE n l = 7 := by unfold sizE; rw [if_neg h, if_pos h2]
theorem siz_0 {n l : Int} (h : ¬ n < l) (h2 : ¬ 16 < n) : sizE n l = 0 := by unfold sizE; rw [if_neg h, if_neg h2]
/-- The error of a list of columns. -/
def colE (t : List ByteArray) (least : Int) : Int := if sizE (t.length : Int) least ≠ 0 then sizE (t.length : Int) least else allE [] t
theorem col_siz {t : List ByteArray} {l : Int} (h : sizE (t.length : Int) l ≠ 0) : colE t l = sizE (t.length : Int) l := by unfold colE; rw [if_pos h]
theorem col_all {t : List ByteArray} {l : Int} (h : sizE (t.length : Int) l = 0) : colE t l = allE [] t := by unfold colE; rw [if_neg (by rw [h]; simp)]
theorem siz_le {n l : Int} (h : sizE n l = 0) : n ≤ 16 := by
  unfold sizE at h
  split at h
  · cases h
  · split at h
    · cases h
    · omega
/-- All names are short. -/
def shortN (t : List ByteArray) : Prop := ∀ x ∈ t, x.size ≤ 9223372036854775807
theorem shortN.at_ {t : List ByteArray} (h : shortN t) {i : Nat} (hi : i < t.length) : t[i]!.size ≤ 9223372036854775807 := h _ (bang_mem hi)
def ic (x : Int) : List Value := [.int .i64 x]
theorem ic_one (x : Int) : ∀ u ∈ ic x, u.oneCell' = true := by simp [ic, Value.oneCell']
def inI (l : List Int) (s : Int) : Bool := l.any fun x => s == x
theorem ixI_in {l : List Int} {s : Int} : decide (idxF (fun x => s == x) l ≥ 0) = inI l s := idxF_any _ _
theorem ald_next {u t : List ByteArray} {i : Nat} (hi : i < t.length) : u ++ t.take (i + 1) = (u ++ t.take i) ++ [t[i]!] := by rw [take_next hi, List.append_assoc]
def zerB (e : E) : Bool := (((e.op == 0) && (e.nm == (⟨#[]⟩ : ByteArray))) && (((e.vk == 0) && (e.vn == 0)) && (e.vs == (⟨#[]⟩ : ByteArray)))) && ((e.kids.length : Int) == 0)
theorem all_snoc {u : List ByteArray} {s : ByteArray} (h : allE [] u = 0) : allE [] (u ++ [s]) = addE u s := by
  have e1 : ∀ j, j < u.length → aldE [] (u ++ [s]) j = aldE [] u j := by
    intro j hj
    unfold aldE
    rw [List.take_append_of_le_length (by omega), getElem!_pos (u ++ [s]) j (by simp; omega), getElem!_pos u j hj, List.getElem_append_left hj]
  have e2 : aldE [] (u ++ [s]) u.length = addE u s := by
    unfold aldE
    rw [List.take_append_of_le_length (Nat.le_refl _), List.take_length, List.nil_append, getElem!_pos (u ++ [s]) u.length (by simp), List.getElem_append_right (Nat.le_refl _)]
    simp
  have z : ∀ j, j < u.length → aldE [] (u ++ [s]) j = 0 := fun j hj => by rw [e1 j hj]; exact fst_zero h j hj
  unfold allE
  rw [show (u ++ [s]).length = u.length + 1 by simp]
  by_cases h0 : aldE [] (u ++ [s]) u.length = 0
  · rw [fst_none (fun j hj => by rcases Nat.lt_succ_iff_lt_or_eq.1 hj with h1 | rfl; exact z j h1; exact h0), ← e2, h0]
  · rw [fst_hit (i := u.length) (by omega) z h0, e2]
end Sx
end Go.Proofs.Ytklccakoblibmaa
