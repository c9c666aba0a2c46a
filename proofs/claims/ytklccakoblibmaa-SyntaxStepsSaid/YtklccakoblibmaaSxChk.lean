/- Identifiers, constants and nodes in plain terms. Conditions: none. -/
import Derived.Test.YtklccakoblibmaaSxSpec
namespace Go.Proofs.Ytklccakoblibmaa
open Go Go.Eng
set_option linter.unusedSimpArgs false
namespace Sx
def words : List ByteArray := [⟨#[97, 110, 100]⟩, ⟨#[111, 114]⟩, ⟨#[110, 111, 116]⟩, ⟨#[110, 117, 108, 108]⟩, ⟨#[116, 114, 117, 101]⟩, ⟨#[102, 97, 108, 115, 101]⟩]
def inS (l : List ByteArray) (s : ByteArray) : Bool := l.any fun x => s == x
def lowB (c : Int) : Bool := decide (97 ≤ c) && decide (c ≤ 122)
def chB (c : Int) : Bool := lowB c || ((decide (48 ≤ c) && decide (c ≤ 57)) || c == 95)
def idB (s : ByteArray) : Bool := (((decide (1 ≤ s.size) && decide (s.size ≤ 40)) && lowB (bat s 0)) && (List.range s.size).all fun j => chB (bat s j)) && !inS words s
theorem idB_iff {s : ByteArray} : idB s = true ↔ (1 ≤ s.size ∧ s.size ≤ 40 ∧ lowB (bat s 0) = true ∧ (∀ j, j < s.size → chB (bat s j) = true) ∧ inS words s = false) := by
  unfold idB
  simp only [Bool.and_eq_true, decide_eq_true_eq, List.all_eq_true, List.mem_range, Bool.not_eq_true']
  constructor
  · rintro ⟨⟨⟨⟨h1, h2⟩, h3⟩, h4⟩, h5⟩; exact ⟨h1, h2, h3, h4, h5⟩
  · rintro ⟨h1, h2, h3, h4, h5⟩; exact ⟨⟨⟨⟨h1, h2⟩, h3⟩, h4⟩, h5⟩
theorem inS_hit {l : List ByteArray} {s : ByteArray} {i : Nat} (hi : i < l.length) (h : (s == l[i]!) = true) : inS l s = true := List.any_eq_true.2 ⟨_, bang_mem hi, h⟩
theorem inS_no {l : List ByteArray} {s : ByteArray} (h : ∀ j, j < l.length → (s == l[j]!) = false) : inS l s = false := by
  unfold inS
  rw [List.any_eq_false]
  intro x hx
  obtain ⟨j, hj, rfl⟩ := List.mem_iff_getElem.1 hx
  have := h j hj
  rw [getElem!_pos l j hj] at this
  rw [this]; simp
theorem ix_in {l : List ByteArray} {s : ByteArray} : decide (idxF (fun x => s == x) l ≥ 0) = inS l s := idxF_any _ _
theorem pos_of {s : ByteArray} (h : (s == (⟨#[]⟩ : ByteArray)) = false) : 0 < s.size := by
  rcases Nat.eq_zero_or_pos s.size with h0 | h0
  · exfalso
    rw [beqB_ne] at h
    apply h
    cases s with
    | mk d =>
      have : d.size = 0 := h0
      rw [Array.size_eq_zero_iff] at this
      rw [this]
  · exact h0
theorem eq_emp {s : ByteArray} (h : (s == (⟨#[]⟩ : ByteArray)) = true) : s.size = 0 := by
  rw [beqB_eq] at h
  rw [h]; rfl
theorem emp_iff {s : ByteArray} : (s == (⟨#[]⟩ : ByteArray)) = decide (s.size = 0) := by
  cases h : (s == (⟨#[]⟩ : ByteArray)) with
  | true => exact (decide_eq_true (eq_emp h)).symm
  | false => exact (decide_eq_false (by have := pos_of h; omega)).symm
theorem id_no {s : ByteArray} (h : ¬ (1 ≤ s.size ∧ s.size ≤ 40 ∧ lowB (bat s 0) = true ∧ (∀ j, j < s.size → chB (bat s j) = true) ∧ inS words s = false)) : idB s = false := by
  cases h2 : idB s with
  | false => rfl
  | true => exact absurd (idB_iff.1 h2) h
theorem id_yes {s : ByteArray} (h : 1 ≤ s.size ∧ s.size ≤ 40 ∧ lowB (bat s 0) = true ∧ (∀ j, j < s.size → chB (bat s j) = true) ∧ inS words s = false) : idB s = true := idB_iff.2 h
theorem id_size {s : ByteArray} (h : idB s = true) : 1 ≤ s.size ∧ s.size ≤ 40 := by have := idB_iff.1 h; exact ⟨this.1, this.2.1⟩
def idN (s : ByteArray) : Int := if idB s = true then 0 else 3
theorem idT {s : ByteArray} : idB s = true ↔ idN s = 0 := by unfold idN; cases idB s <;> simp
theorem idF {s : ByteArray} : idB s = false ↔ ¬ idN s = 0 := by unfold idN; cases idB s <;> simp
/-! ### Constants -/
def badB (c : Int) : Bool := (decide (c < 32) || decide (c > 126)) || c == 34
/-- The error of a value's form. -/
def valE (k n : Int) (s : ByteArray) : Int :=
  if k ≠ 0 ∧ (k < 1 ∨ 3 < k) then 14
  else if (k = 1 ∧ n ≠ 0 ∧ n ≠ 1) ∨ (k = 2 ∧ ¬ (-1000000000000000 ≤ n ∧ n ≤ 1000000000000000)) then 2
  else if k = 3 ∧ 200 < s.size then 7
  else if (k ≠ 3 ∧ 1 ≤ s.size) ∨ ((k = 0 ∨ k = 3) ∧ n ≠ 0) then 1
  else 0
def cstE (k n : Int) (s : ByteArray) : Int := if valE k n s ≠ 0 then valE k n s else if (List.range s.size).any (fun j => badB (bat s j)) then 10 else 0
section
variable {k n : Int} {s : ByteArray}
theorem val_1 (h1 : k ≠ 0 ∧ (k < 1 ∨ 3 < k)) : valE k n s = 14 := by unfold valE; rw [if_pos h1]
theorem val_2 (h1 : ¬ (k ≠ 0 ∧ (k < 1 ∨ 3 < k))) (h2 : (k = 1 ∧ n ≠ 0 ∧ n ≠ 1) ∨ (k = 2 ∧ ¬ (-1000000000000000 ≤ n ∧ n ≤ 1000000000000000))) : valE k n s = 2 := by unfold valE; rw [if_neg h1, if_pos h2]
theorem val_3 (h1 : ¬ (k ≠ 0 ∧ (k < 1 ∨ 3 < k))) (h2 : ¬ ((k = 1 ∧ n ≠ 0 ∧ n ≠ 1) ∨ (k = 2 ∧ ¬ (-1000000000000000 ≤ n ∧ n ≤ 1000000000000000)))) (h3 : k = 3 ∧ 200 < s.size) : valE k n s = 7 := by unfold valE; rw [if_neg h1, if_neg h2, if_pos h3]
theorem val_4 (h1 : ¬ (k ≠ 0 ∧ (k < 1 ∨ 3 < k))) (h2 : ¬ ((k = 1 ∧ n ≠ 0 ∧ n ≠ 1) ∨ (k = 2 ∧ ¬ (-1000000000000000 ≤ n ∧ n ≤ 1000000000000000)))) (h3 : ¬ (k = 3 ∧ 200 < s.size)) (h4 : (k ≠ 3 ∧ 1 ≤ s.size) ∨ ((k = 0 ∨ k = 3) ∧ n ≠ 0)) : valE k n s = 1 := by unfold valE; rw [if_neg h1, if_neg h2, if_neg h3, if_pos h4]
theorem val_5 (h1 : ¬ (k ≠ 0 ∧ (k < 1 ∨ 3 < k))) (h2 : ¬ ((k = 1 ∧ n ≠ 0 ∧ n ≠ 1) ∨ (k = 2 ∧ ¬ (-1000000000000000 ≤ n ∧ n ≤ 1000000000000000)))) (h3 : ¬ (k = 3 ∧ 200 < s.size)) (h4 : ¬ ((k ≠ 3 ∧ 1 ≤ s.size) ∨ ((k = 0 ∨ k = 3) ∧ n ≠ 0))) : valE k n s = 0 := by unfold valE; rw [if_neg h1, if_neg h2, if_neg h3, if_neg h4]
end
theorem ch_a {c : Int} (h : (((decide (c < 97) || decide (c > 122)) && (decide (c < 48) || decide (c > 57))) && !(c == 95)) = false) : chB c = true := by
  unfold chB lowB
  simp at h ⊢
  omega
theorem ch_bad {c : Int} (h : (((decide (c < 97) || decide (c > 122)) && (decide (c < 48) || decide (c > 57))) && !(c == 95)) = true) : chB c = false := by
  unfold chB lowB
  simp at h ⊢
  omega
theorem low_a {c : Int} (h1 : ¬ c < 97) (h2 : ¬ c > 122) : lowB c = true := by
  unfold lowB
  simp
  omega
theorem low_no {c : Int} (h : c < 97 ∨ c > 122) : lowB c = false := by
  unfold lowB
  simp
  omega
theorem ch_low {c : Int} (h : lowB c = true) : chB c = true := by unfold chB; rw [h]; rfl
def digB (c : Int) : Bool := (decide (c ≥ 48) && decide (c ≤ 57)) || c == 95
def lowB' (c : Int) : Bool := decide (c ≥ 97) && decide (c ≤ 122)
theorem ch_r {c : Int} : chB c = (lowB' c || digB c) := rfl
theorem low_r {c : Int} : lowB c = lowB' c := rfl
theorem rid_step {c : Int} {i : Nat} (h : (!lowB' c && (!digB c || (((i : Nat) : Int) == 0))) = false) : chB c = true ∧ (i = 0 → lowB c = true) := by
  rw [ch_r, low_r]
  cases h1 : lowB' c <;> cases h2 : digB c <;> rw [h1, h2] at h <;> simp at h ⊢
  exact h
theorem rid_bad {c : Int} {i : Nat} (h : (!lowB' c && (!digB c || (((i : Nat) : Int) == 0))) = true) : chB c = false ∨ (i = 0 ∧ lowB c = false) := by
  rw [ch_r, low_r]
  cases h1 : lowB' c <;> cases h2 : digB c <;> rw [h1, h2] at h <;> simp at h ⊢
  exact h
theorem cst_val {k n : Int} {s : ByteArray} (h : valE k n s ≠ 0) : cstE k n s = valE k n s := by unfold cstE; rw [if_pos h]
theorem cst_bad {k n : Int} {s : ByteArray} {j : Nat} (h : valE k n s = 0) (hj : j < s.size) (hb : badB (bat s j) = true) : cstE k n s = 10 := by
  unfold cstE
  rw [if_neg (by rw [h]; simp), if_pos]
  exact List.any_eq_true.2 ⟨j, List.mem_range.2 hj, hb⟩
theorem cst_ok {k n : Int} {s : ByteArray} (h : valE k n s = 0) (hb : ∀ j, j < s.size → badB (bat s j) = false) : cstE k n s = 0 := by
  unfold cstE
  rw [if_neg (by rw [h]; simp), if_neg]
  simp only [List.any_eq_true, List.mem_range, not_exists, not_and]
  intro j hj
  rw [hb j hj]; simp
/-! ### Nodes -/
def ari (s : ByteArray) : Int :=
  if s = ⟨#[109, 105, 110]⟩ ∨ s = ⟨#[109, 97, 120]⟩ ∨ s = ⟨#[104, 97, 115]⟩ ∨ s = ⟨#[115, 116, 97, 114, 116, 115]⟩ then 2
  else if s = ⟨#[97, 98, 115]⟩ ∨ s = ⟨#[108, 101, 110]⟩ then 1 else 0
/-- How many kids a form has. -/
def kidN (op : Int) (len : Nat) : Int := if op = 1 ∨ op = 2 then 0 else if op = 3 ∨ op = 4 then 1 else if op = 16 then (len : Int) else 2
def callE (e : E) : Int := if idB e.nm = false then 3 else if ari e.nm = 0 then 5 else if (e.kids.length : Int) ≠ ari e.nm then 1 else 0
def nodE (e : E) : Int :=
  if e.op < 1 ∨ 16 < e.op then 1
  else if (e.op ≠ 2 ∧ e.op ≠ 16 ∧ 1 ≤ e.nm.size) ∨ (e.op ≠ 1 ∧ ¬ (e.vk = 0 ∧ e.vn = 0 ∧ e.vs.size = 0)) ∨ (e.kids.length : Int) ≠ kidN e.op e.kids.length then 1
  else if e.op = 1 then cstE e.vk e.vn e.vs
  else if e.op = 2 then (if idB e.nm = false then 3 else 0)
  else if e.op = 16 then callE e
  else 0
mutual
def ndE : E → Int
  | .mk o x vk vn vs A n c ks => if nodE (.mk o x vk vn vs A n c ks) ≠ 0 then nodE (.mk o x vk vn vs A n c ks) else ndL ks
def ndL : List E → Int
  | [] => 0
  | k :: r => if ndE k ≠ 0 then ndE k else ndL r
end
theorem ndE_eq (e : E) : ndE e = if nodE e ≠ 0 then nodE e else ndL e.kids := by cases e; rw [ndE]; rfl
theorem ndL_app (a b : List E) : ndL (a ++ b) = if ndL a ≠ 0 then ndL a else ndL b := by
  induction a with
  | nil => simp [ndL]
  | cons k r ih => rw [List.cons_append, ndL, ndL, ih]; split <;> rfl
theorem ndL_next {l : List E} {i : Nat} (h : i < l.length) (h0 : ndL (l.take i) = 0) : ndL (l.take (i + 1)) = ndE l[i]! := by
  rw [take_next h, ndL_app, h0, if_neg (by simp), ndL, ndL]
  split
  · rfl
  · rename_i h1; exact (Classical.not_not.1 h1).symm
theorem ndL_hit {l : List E} {i : Nat} (h : i < l.length) (h0 : ndL (l.take i) = 0) (h1 : ndE l[i]! ≠ 0) : ndL l = ndE l[i]! := by
  have e := ndL_app (l.take (i + 1)) (l.drop (i + 1))
  rw [List.take_append_drop, ndL_next h h0, if_pos h1] at e
  exact e
theorem ndE_node {e : E} (h : nodE e ≠ 0) : ndE e = nodE e := by rw [ndE_eq, if_pos h]
theorem ndE_kids {e : E} (h : nodE e = 0) : ndE e = ndL e.kids := by rw [ndE_eq, if_neg (by rw [h]; simp)]
theorem ndL_mem : ∀ {l : List E} {k : E}, ndL l = 0 → k ∈ l → ndE k = 0
  | x :: r, k, h, hk => by
    rw [ndL] at h
    split at h
    · rename_i h1; exact absurd h h1
    · rename_i h1
      rcases List.mem_cons.1 hk with rfl | hk
      · exact Classical.not_not.1 h1
      · exact ndL_mem h hk
def exE (e : E) : Int := if 200 < cnt e then 7 else if 16 < lev e then 20 else ndE e
/-! ### The ways through a call and a node -/
theorem ari_2 {s : ByteArray} (h : s = ⟨#[109, 105, 110]⟩ ∨ s = ⟨#[109, 97, 120]⟩ ∨ s = ⟨#[104, 97, 115]⟩ ∨ s = ⟨#[115, 116, 97, 114, 116, 115]⟩) : ari s = 2 := by unfold ari; rw [if_pos h]
theorem ari_1 {s : ByteArray} (h : s = ⟨#[97, 98, 115]⟩ ∨ s = ⟨#[108, 101, 110]⟩) : ari s = 1 := by rcases h with rfl | rfl <;> decide +kernel
theorem ari_0 {s : ByteArray} (h1 : s ≠ ⟨#[109, 105, 110]⟩) (h2 : s ≠ ⟨#[109, 97, 120]⟩) (h3 : s ≠ ⟨#[104, 97, 115]⟩) (h4 : s ≠ ⟨#[115, 116, 97, 114, 116, 115]⟩) (h5 : s ≠ ⟨#[97, 98, 115]⟩) (h6 : s ≠ ⟨#[108, 101, 110]⟩) : ari s = 0 := by
  unfold ari
  rw [if_neg (by rintro (h | h | h | h) <;> contradiction), if_neg (by rintro (h | h) <;> contradiction)]
theorem ari_a {s : ByteArray} (h : ((((s == (⟨#[109, 105, 110]⟩ : ByteArray)) || (s == (⟨#[109, 97, 120]⟩ : ByteArray))) || (s == (⟨#[104, 97, 115]⟩ : ByteArray))) || (s == (⟨#[115, 116, 97, 114, 116, 115]⟩ : ByteArray))) = true) : ari s = 2 := by
  simp only [Bool.or_eq_true, beqB_eq] at h
  exact ari_2 (by rcases h with ((h | h) | h) | h <;> first | exact .inl h | exact .inr (.inl h) | exact .inr (.inr (.inl h)) | exact .inr (.inr (.inr h)))
theorem ari_b {s : ByteArray} (h : ((s == (⟨#[97, 98, 115]⟩ : ByteArray)) || (s == (⟨#[108, 101, 110]⟩ : ByteArray))) = true) : ari s = 1 := by
  simp only [Bool.or_eq_true, beqB_eq] at h
  exact ari_1 h
theorem ari_c {s : ByteArray} (h : ((((s == (⟨#[109, 105, 110]⟩ : ByteArray)) || (s == (⟨#[109, 97, 120]⟩ : ByteArray))) || (s == (⟨#[104, 97, 115]⟩ : ByteArray))) || (s == (⟨#[115, 116, 97, 114, 116, 115]⟩ : ByteArray))) = false) (h' : ((s == (⟨#[97, 98, 115]⟩ : ByteArray)) || (s == (⟨#[108, 101, 110]⟩ : ByteArray))) = false) : ari s = 0 := by
  simp only [Bool.or_eq_false_iff, beqB_ne] at h h'
  exact ari_0 h.1.1.1 h.1.1.2 h.1.2 h.2 h'.1 h'.2
theorem kid_0 {op : Int} {n : Nat} (h : op = 1 ∨ op = 2) : kidN op n = 0 := by unfold kidN; rw [if_pos h]
theorem kid_1 {op : Int} {n : Nat} (h : op = 3 ∨ op = 4) : kidN op n = 1 := by unfold kidN; rw [if_neg (by omega), if_pos h]
theorem kid_c {op : Int} {n : Nat} (h : op = 16) : kidN op n = n := by unfold kidN; rw [if_neg (by omega), if_neg (by omega), if_pos h]
theorem kid_2 {op : Int} {n : Nat} (h : ¬ (op = 1 ∨ op = 2)) (h2 : ¬ (op = 3 ∨ op = 4)) (h3 : ¬ op = 16) : kidN op n = 2 := by unfold kidN; rw [if_neg h, if_neg h2, if_neg h3]
def kidR (op : Int) : Int := if op = 1 ∨ op = 2 then 0 else if op = 3 ∨ op = 4 then 1 else if op = 16 then -1 else 2
theorem kid_rel (op : Int) (n : Nat) : (kidR op ≥ 0 ∧ ¬ (n : Int) = kidR op) ↔ ¬ (n : Int) = kidN op n := by
  unfold kidR kidN
  split
  · omega
  · split
    · omega
    · split <;> omega
theorem kidR_0 {op : Int} (h : op = 1 ∨ op = 2) : kidR op = 0 := by unfold kidR; rw [if_pos h]
theorem kidR_1 {op : Int} (h : op = 3 ∨ op = 4) : kidR op = 1 := by unfold kidR; rw [if_neg (by omega), if_pos h]
theorem kidR_c {op : Int} (h : op = 16) : kidR op = -1 := by unfold kidR; rw [if_neg (by omega), if_neg (by omega), if_pos h]
theorem kidR_2 {op : Int} (h : ¬ (op = 1 ∨ op = 2)) (h2 : ¬ (op = 3 ∨ op = 4)) (h3 : ¬ op = 16) : kidR op = 2 := by unfold kidR; rw [if_neg h, if_neg h2, if_neg h3]
theorem short_at {e : E} (h : short e = true) : e.nm.size ≤ 300 ∧ e.vs.size ≤ 300 := by
  rw [short_eq] at h
  simp only [Bool.and_eq_true, decide_eq_true_eq] at h
  exact h.1
theorem short_kid {e k : E} (h : short e = true) (hk : k ∈ e.kids) : short k = true := by
  rw [short_eq, Bool.and_eq_true] at h
  exact shortL_mem h.2 hk
theorem cnt_kid {e k : E} {m : Nat} (h : cnt e ≤ m) (hk : k ∈ e.kids) : cnt k ≤ m := by
  rw [cnt_eq] at h
  have := cntL_mem hk
  omega
/-! ### All nodes -/
def nx (e : E) (i : Nat) : Int := if nodE e ≠ 0 then nodE e else ndL (e.kids.take i)
theorem nx_zero (e : E) : nodE e = nx e 0 := by
  unfold nx
  split
  · rfl
  · rename_i h; rw [List.take_zero, ndL]; exact Classical.not_not.1 h
theorem nx_node {e : E} {i : Nat} (h : nx e i = 0) : nodE e = 0 ∧ ndL (e.kids.take i) = 0 := by
  unfold nx at h
  split at h
  · rename_i h1; exact absurd h h1
  · rename_i h1; exact ⟨Classical.not_not.1 h1, h⟩
theorem nx_step {e : E} {i : Nat} (h : nx e i = 0) (hi : i < e.kids.length) : ndE e.kids[i]! = nx e (i + 1) := by
  obtain ⟨h1, h2⟩ := nx_node h
  unfold nx
  rw [if_neg (by rw [h1]; simp), ndL_next hi h2]
theorem nx_end {e : E} {i : Nat} (h : e.kids.length ≤ i ∨ nx e i ≠ 0) : nx e i = ndE e := by
  rw [ndE_eq]
  unfold nx at h ⊢
  split
  · rfl
  · rename_i h1
    rw [if_neg h1] at h
    rcases h with h | h
    · rw [List.take_of_length_le h]
    · have e1 := ndL_app (e.kids.take i) (e.kids.drop i)
      rw [List.take_append_drop, if_pos h] at e1
      exact e1.symm
/-! ### Counting -/
def Mea (e : E) (m n d : Int) : Prop := (m + cnt e ≤ 200 → n = m + cnt e ∧ d = lev e) ∧ (200 < m + cnt e → 200 < n) ∧ m ≤ n ∧ n ≤ m + cnt e ∧ 0 ≤ d ∧ d ≤ lev e
def MeaL (e : E) (i : Nat) (m n d : Int) : Prop := (m + 1 + cntL (e.kids.take i) ≤ 200 → n = m + 1 + cntL (e.kids.take i) ∧ d = levL (e.kids.take i)) ∧ (200 < m + 1 + cntL (e.kids.take i) → 200 < n) ∧ m ≤ n ∧ n ≤ m + 1 + cntL (e.kids.take i) ∧ 0 ≤ d ∧ d ≤ levL (e.kids.take i)
theorem mea_zero (e : E) (m : Int) : MeaL e 0 m (m + 1) 0 := by
  unfold MeaL
  rw [List.take_zero, cntL, levL]
  refine ⟨fun _ => ⟨by omega, rfl⟩, fun h => by omega, by omega, by omega, by omega, by omega⟩
theorem mea_step {e : E} {i : Nat} {m n d n' d' : Int} (h : MeaL e i m n d) (hi : i < e.kids.length) (h2 : ¬ n > 200) (hk : Mea e.kids[i]! n n' d') : MeaL e (i + 1) m n' (max d d') := by
  unfold MeaL Mea at *
  rw [cntL_next hi, levL_next hi]
  obtain ⟨a1, a2, a3, a4, a5, a6⟩ := h
  obtain ⟨b1, b2, b3, b4, b5, b6⟩ := hk
  refine ⟨fun h => ?_, fun h => ?_, by omega, by omega, by omega, by omega⟩
  · have := a1 (by omega); have := b1 (by omega); constructor <;> omega
  · exact b2 (by have := a1; omega)
theorem levL_le {l : List E} {i : Nat} : levL (l.take i) ≤ levL l := by
  have := levL_app (l.take i) (l.drop i)
  rw [List.take_append_drop] at this
  omega
theorem mea_end {e : E} {i : Nat} {m n d : Int} (h : MeaL e i m n d) (hi : e.kids.length ≤ i ∨ n > 200) : Mea e m n (d + 1) := by
  have c1 := cntL_le (l := e.kids) (i := i)
  have c2 := levL_le (l := e.kids) (i := i)
  unfold MeaL Mea at *
  rw [cnt_eq, lev_eq]
  obtain ⟨a1, a2, a3, a4, a5, a6⟩ := h
  rcases hi with hi | hi
  · rw [List.take_of_length_le hi] at a1 a2 a4 a6
    refine ⟨fun h => ?_, fun h => ?_, by omega, by omega, by omega, by omega⟩
    · have := a1 (by omega); constructor <;> omega
    · exact a2 (by omega)
  · refine ⟨fun h => by omega, fun _ => by omega, by omega, by omega, by omega, by omega⟩
def Cou (e : E) (m n : Int) : Prop := (cnt e ≤ m → n = cnt e) ∧ (m < cnt e → m < n) ∧ 1 ≤ n ∧ n ≤ cnt e
def CouL (e : E) (i : Nat) (m n : Int) : Prop := (1 + cntL (e.kids.take i) ≤ m → n = 1 + cntL (e.kids.take i)) ∧ (m < 1 + cntL (e.kids.take i) → m < n) ∧ 1 ≤ n ∧ n ≤ 1 + cntL (e.kids.take i)
theorem cou_zero (e : E) (m : Int) : CouL e 0 m 1 := by
  unfold CouL
  rw [List.take_zero, cntL]
  refine ⟨fun _ => by omega, fun h => by omega, by omega, by omega⟩
theorem cou_step {e : E} {i : Nat} {m n r : Int} (h : CouL e i m n) (hi : i < e.kids.length) (h2 : n ≤ m) (hk : Cou e.kids[i]! (m - n) r) : CouL e (i + 1) m (n + r) := by
  unfold CouL Cou at *
  rw [cntL_next hi]
  obtain ⟨a1, a2, a3, a4⟩ := h
  obtain ⟨b1, b2, b3, b4⟩ := hk
  refine ⟨fun h => ?_, fun h => ?_, by omega, by omega⟩
  · have := a1 (by omega); have := b1 (by omega); omega
  · by_cases h3 : m < 1 + cntL (e.kids.take i)
    · have := a2 h3; omega
    · have := a1 (by omega); have := b2 (by omega); omega
theorem cou_end {e : E} {i : Nat} {m n : Int} (h : CouL e i m n) (hi : e.kids.length ≤ i ∨ ¬ n ≤ m) : Cou e m n := by
  have c1 := cntL_le (l := e.kids) (i := i)
  unfold CouL Cou at *
  rw [cnt_eq]
  obtain ⟨a1, a2, a3, a4⟩ := h
  rcases hi with hi | hi
  · rw [List.take_of_length_le hi] at a1 a2 a4
    refine ⟨fun h => ?_, fun h => ?_, by omega, by omega⟩
    · have := a1 (by omega); omega
    · exact a2 (by omega)
  · refine ⟨fun h => by omega, fun _ => by omega, by omega, by omega⟩
def DeeL (e : E) (i : Nat) (v f n : Int) : Prop := n + 1 + cntL (e.kids.take i) = f ∧ shortL (e.kids.take i) = true ∧ (levL (e.kids.take i) : Int) ≤ v - 1 ∧ 0 ≤ n
def Dee (e : E) (v f n : Int) : Prop := 0 ≤ n → short e = true ∧ (lev e : Int) ≤ v ∧ n + cnt e = f
theorem dee_zero {e : E} {v f : Int} (hv : 1 ≤ v) (hf : 0 ≤ f - 1) : DeeL e 0 v f (f - 1) := by
  unfold DeeL
  rw [List.take_zero, cntL, levL, shortL]
  exact ⟨by omega, rfl, by omega, hf⟩
theorem dee_step {e : E} {i : Nat} {v f n n' : Int} (h : DeeL e i v f n) (hi : i < e.kids.length) (hk : Dee e.kids[i]! (v - 1) n n') (h2 : 0 ≤ n') : DeeL e (i + 1) v f n' := by
  obtain ⟨a1, a2, a3, a4⟩ := h
  obtain ⟨b1, b2, b3⟩ := hk h2
  refine ⟨?_, ?_, ?_, h2⟩
  · rw [cntL_next hi]; omega
  · rw [shortL_next hi, a2, b1]; rfl
  · rw [levL_next hi]; omega
theorem dee_end {e : E} {i : Nat} {v f n : Int} (h : DeeL e i v f n) (hi : e.kids.length ≤ i) (hn : e.nm.size ≤ 300 ∧ e.vs.size ≤ 300) : Dee e v f n := by
  obtain ⟨a1, a2, a3, a4⟩ := h
  rw [List.take_of_length_le hi] at a1 a2 a3
  intro _
  refine ⟨?_, ?_, ?_⟩
  · rw [short_eq, a2, decide_eq_true hn.1, decide_eq_true hn.2]; rfl
  · rw [lev_eq]; omega
  · rw [cnt_eq]; omega
theorem ex_7 {e : E} (h : 200 < cnt e) : exE e = 7 := by unfold exE; rw [if_pos h]
theorem ex_20 {e : E} (h : ¬ 200 < cnt e) (h2 : 16 < lev e) : exE e = 20 := by unfold exE; rw [if_neg h, if_pos h2]
theorem ex_nd {e : E} (h : ¬ 200 < cnt e) (h2 : ¬ 16 < lev e) : exE e = ndE e := by unfold exE; rw [if_neg h, if_neg h2]
end Sx
end Go.Proofs.Ytklccakoblibmaa
