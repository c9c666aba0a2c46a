/- Decimal texts in plain Lean: what the reference writes and reads. Conditions: none. -/
import Derived.Test.YteaalclidffjgaaDoorNqTab
import Derived.Test.YteaalclidffjgaaDoorStr
import Derived.Lib.ItoaLen
namespace Go.Proofs.YteaalclidffjgaaDoor
open Go Go.Eng Go.Lib
namespace Nq
def bl_ (l : List UInt8) : ByteArray := ⟨l.toArray⟩
theorem bl_app (a b : List UInt8) : bl_ a ++ bl_ b = bl_ (a ++ b) := by
  apply ByteArray.ext
  rw [ByteArray.data_append]
  simp [bl_]
theorem bl_inj {a b : List UInt8} (h : bl_ a = bl_ b) : a = b := by
  have := congrArg (fun x => x.data.toList) h
  simpa [bl_] using this
theorem bl_size (a : List UInt8) : (bl_ a).size = a.length := by simp [bl_, ByteArray.size]
theorem bl_list (a : List UInt8) : (bl_ a).data.toList = a := by simp [bl_]
theorem bl_of (s : ByteArray) : bl_ s.data.toList = s := by apply ByteArray.ext; simp [bl_]
theorem txt_def (n : Int) : txt n = bl_ (itoa n) := rfl
theorem dec_small {u : Nat} (h : u < 10) : decDigits u = [UInt8.ofNat (48 + u)] := by rw [decDigits, dif_pos h]
theorem dec_big {u : Nat} (h : ¬ u < 10) : decDigits u = decDigits (u / 10) ++ [UInt8.ofNat (48 + u % 10)] := by rw [decDigits, dif_neg h]
theorem digit_part : ∀ d : Nat, d < 10 → ByteArray.extract ⟨#[48, 49, 50, 51, 52, 53, 54, 55, 56, 57]⟩ d (d + 1) = bl_ [UInt8.ofNat (48 + d)]
  | 0, _ => by decide
  | 1, _ => by decide
  | 2, _ => by decide
  | 3, _ => by decide
  | 4, _ => by decide
  | 5, _ => by decide
  | 6, _ => by decide
  | 7, _ => by decide
  | 8, _ => by decide
  | 9, _ => by decide
  | d + 10, h => by omega
theorem txt_minus {n : Int} (h : n < 0) : (⟨#[45]⟩ : ByteArray) ++ txt (-n) = txt n := by
  obtain ⟨u, rfl⟩ : ∃ u : Nat, n = -(u : Int) := ⟨n.natAbs, by omega⟩
  rw [Int.neg_neg, txt_def, txt_def, itoa_nonneg, itoa_neg u (by omega)]
  exact bl_app [45] _
theorem txt_digit {n : Nat} (h : n < 10) : ByteArray.extract ⟨#[48, 49, 50, 51, 52, 53, 54, 55, 56, 57]⟩ n (n + 1) = txt ((n : Nat) : Int) := by
  rw [digit_part n h, txt_def, itoa_nonneg, dec_small h]
/-- The last digit. -/
def ld (n : Int) : Nat := n.natAbs % 10
theorem txt_step {n : Int} (h : 10 ≤ n ∨ n ≤ -10) : txt (n.tdiv 10) ++ ByteArray.extract ⟨#[48, 49, 50, 51, 52, 53, 54, 55, 56, 57]⟩ (ld n) (ld n + 1) = txt n := by
  rw [digit_part (ld n) (Nat.mod_lt _ (by decide)), txt_def, txt_def, bl_app]
  congr 1
  rcases h with h | h
  · obtain ⟨u, rfl⟩ : ∃ u : Nat, n = u := ⟨n.toNat, by omega⟩
    rw [show ((u : Int).tdiv 10) = ((u / 10 : Nat) : Int) from rfl, itoa_nonneg, itoa_nonneg, dec_big (u := u) (by omega)]
    rfl
  · obtain ⟨u, rfl⟩ : ∃ u : Nat, n = -(u : Int) := ⟨n.natAbs, by omega⟩
    rw [Int.neg_tdiv, show ((u : Int).tdiv 10) = ((u / 10 : Nat) : Int) from rfl, itoa_neg _ (by omega), itoa_neg _ (by omega), dec_big (u := u) (by omega)]
    unfold ld
    rw [Int.natAbs_neg]
    rfl
theorem dig_chars (u : Nat) : ∀ c ∈ decDigits u, 48 ≤ c.toNat ∧ c.toNat ≤ 57 := by
  induction u using Nat.strongRecOn with
  | _ u ih =>
    have one : ∀ d : Nat, d < 10 → (UInt8.ofNat (48 + d)).toNat = 48 + d := fun d hd => by
      simp [UInt8.toNat_ofNat']; omega
    by_cases h : u < 10
    · rw [dec_small h]
      intro c hc
      rw [List.mem_singleton.1 hc, one u h]; omega
    · rw [dec_big h]
      intro c hc
      rcases List.mem_append.1 hc with hc | hc
      · exact ih (u / 10) (by omega) c hc
      · rw [List.mem_singleton.1 hc, one _ (Nat.mod_lt _ (by decide))]; omega
theorem one_digit {d : Nat} (hd : d < 10) : (UInt8.ofNat (48 + d)).toNat = 48 + d := by
  simp [UInt8.toNat_ofNat']; omega
theorem parse_snoc (c : UInt8) : ∀ (l : List UInt8) (acc a : Nat), parseUint10 acc l = .ok a → 48 ≤ c.toNat → c.toNat ≤ 57 → a < 1844674407370955162 → a * 10 + (c.toNat - 48) < 18446744073709551616 → parseUint10 acc (l ++ [c]) = .ok (a * 10 + (c.toNat - 48))
  | [], acc, a, h, h1, h2, h3, h4 => by
    simp only [parseUint10] at h
    injection h with h
    subst h
    simp only [List.nil_append, parseUint10]
    rw [if_pos ⟨h1, h2⟩, if_neg (by omega), if_neg (by omega)]
  | x :: r, acc, a, h, h1, h2, h3, h4 => by
    simp only [parseUint10] at h
    simp only [List.cons_append, parseUint10]
    split at h
    · rename_i hx
      rw [if_pos hx]
      split at h
      · cases h
      · rename_i hy
        rw [if_neg hy]
        split at h
        · cases h
        · rename_i hz
          rw [if_neg hz]
          exact parse_snoc c r _ a h h1 h2 h3 h4
    · cases h
theorem parse_dec (u : Nat) (h : u < 18446744073709551616) : parseUint10 0 (decDigits u) = .ok u := by
  induction u using Nat.strongRecOn with
  | _ u ih =>
    by_cases hu : u < 10
    · rw [dec_small hu]
      simp only [parseUint10]
      rw [one_digit hu, if_pos (by omega), if_neg (by omega), if_neg (by omega)]
      congr 1; omega
    · rw [dec_big hu]
      have hm : u % 10 < 10 := Nat.mod_lt _ (by decide)
      have := parse_snoc (UInt8.ofNat (48 + u % 10)) (decDigits (u / 10)) 0 (u / 10) (ih (u / 10) (by omega) (by omega)) (by rw [one_digit hm]; omega) (by rw [one_digit hm]; omega) (by omega) (by rw [one_digit hm]; omega)
      rw [this, one_digit hm]
      congr 1; omega
theorem dec_ne (u : Nat) : decDigits u ≠ [] := by
  by_cases hu : u < 10
  · rw [dec_small hu]; simp
  · rw [dec_big hu]; simp
/-- What Itoa writes, Atoi reads. -/
theorem atoi_itoa {v : Int} (h : -9223372036854775808 ≤ v ∧ v ≤ 9223372036854775807) : atoiAll (itoa v) = .ok v := by
  by_cases hneg : v < 0
  · obtain ⟨u, rfl⟩ : ∃ u : Nat, v = -(u : Int) := ⟨v.natAbs, by omega⟩
    rw [itoa_neg u (by omega)]
    unfold atoiAll
    have e : parseMag (if (45 : UInt8).toNat = 43 ∨ (45 : UInt8).toNat = 45 then decDigits u else 45 :: decDigits u) = .ok u := by
      rw [if_pos (.inr rfl)]
      unfold parseMag
      rw [if_neg (dec_ne u)]
      exact parse_dec u (by omega)
    simp only [e]
    rw [if_neg (by simp), if_neg (by simp; omega)]
    simp
  · obtain ⟨u, rfl⟩ : ∃ u : Nat, v = u := ⟨v.toNat, by omega⟩
    rw [itoa_nonneg]
    cases hd : decDigits u with
    | nil => exact absurd hd (dec_ne u)
    | cons c r =>
      have hc := dig_chars u c (by rw [hd]; exact List.mem_cons_self)
      have e : parseMag (if c.toNat = 43 ∨ c.toNat = 45 then r else c :: r) = .ok u := by
        rw [if_neg (by omega), ← hd]
        unfold parseMag
        rw [if_neg (dec_ne u)]
        exact parse_dec u (by omega)
      unfold atoiAll
      simp only [e]
      rw [if_neg (by omega), if_neg (by omega), if_neg (by omega)]
/-- What the program's Parse gives. -/
def ps (s : ByteArray) : Int × Bool := match atoiAll s.data.toList with
  | .ok v => wi v (txt v == s)
  | _ => (0, false)
theorem ps_ok {s : ByteArray} {v : Int} (h : atoiAll s.data.toList = .ok v) : ps s = wi v (txt v == s) := by unfold ps; rw [h]
theorem ps_bad {s : ByteArray} (h : ∀ v, atoiAll s.data.toList ≠ .ok v) : ps s = (0, false) := by
  unfold ps
  cases hr : atoiAll s.data.toList with
  | ok v => exact absurd hr (h v)
  | _ => rfl
theorem inB_64 {v : Int} (h : inB v = true) : -9223372036854775808 ≤ v ∧ v ≤ 9223372036854775807 := by have := (inB_iff v).1 h; omega
theorem ps_txt {v : Int} (h : -9223372036854775808 ≤ v ∧ v ≤ 9223372036854775807) : ps (txt v) = wi v true := by
  have e : atoiAll (txt v).data.toList = .ok v := by rw [txt_def, bl_list]; exact atoi_itoa h
  rw [ps_ok e, beqB_self]
/-- A text is read exactly where it is a number's in range. -/
theorem ps_cases (s : ByteArray) : (∃ v, inB v = true ∧ s = txt v ∧ ps s = (v, true)) ∨ ((∀ v, inB v = true → s ≠ txt v) ∧ ps s = (0, false)) := by
  by_cases hx : ∃ v, inB v = true ∧ s = txt v
  · obtain ⟨v, hv, rfl⟩ := hx
    refine .inl ⟨v, hv, rfl, ?_⟩
    rw [ps_txt (inB_64 hv)]
    unfold wi; rw [hv]; rfl
  · have hno : ∀ v, inB v = true → s ≠ txt v := fun v hv he => hx ⟨v, hv, he⟩
    refine .inr ⟨hno, ?_⟩
    unfold ps
    cases hr : atoiAll s.data.toList with
    | ok v =>
      simp only
      unfold wi
      cases hb : txt v == s with
      | false => rfl
      | true =>
        cases hi : inB v with
        | false => rfl
        | true => exact absurd (beqB_eq.1 hb).symm (hno v hi)
    | _ => rfl
/-! The reference's Parse. -/
def dst_ (n : Nat) (c : UInt8) : Nat := if 48 ≤ c.toNat ∧ c.toNat ≤ 57 then 10 * n + (c.toNat - 48) else n
def dig (s : ByteArray) (i : Nat) : Nat := (s.data.toList.take i).foldl dst_ 0
theorem dig_zero (s : ByteArray) : dig s 0 = 0 := rfl
theorem dig_next {s : ByteArray} {i : Nat} (h : i < s.size) : dig s (i + 1) = dst_ (dig s i) (s.data.toList[i]!) := by
  have h3 : i < s.data.toList.length := by simpa using h
  unfold dig
  rw [List.take_add_one, List.foldl_append, List.getElem?_eq_getElem h3, List.getElem!_eq_getElem?_getD, List.getElem?_eq_getElem h3]
  rfl
theorem dig_yes {s : ByteArray} {i : Nat} {z : Int} (h : i < s.size) (hz : z = ((dig s i : Nat) : Int)) (h1 : bat s i ≥ 48) (h2 : bat s i ≤ 57) : 10 * z + (bat s i - 48) = ((dig s (i + 1) : Nat) : Int) := by
  rw [dig_next h]
  unfold bat at h1 h2 ⊢
  unfold dst_
  rw [if_pos (by omega)]; omega
theorem dig_no {s : ByteArray} {i : Nat} {z : Int} (h : i < s.size) (hz : z = ((dig s i : Nat) : Int)) (h1 : ¬ (bat s i ≥ 48 ∧ bat s i ≤ 57)) : z = ((dig s (i + 1) : Nat) : Int) := by
  rw [dig_next h]
  unfold bat at h1
  unfold dst_
  rw [if_neg (by omega)]; exact hz
theorem fold_lt : ∀ (l : List UInt8) (a m : Nat), a < 10 ^ m → l.foldl dst_ a < 10 ^ (m + l.length)
  | [], a, m, h => h
  | c :: r, a, m, h => by
    have h1 : dst_ a c < 10 ^ (m + 1) := by
      rw [Nat.pow_succ]
      have := c.toNat_lt
      unfold dst_; split <;> omega
    have := fold_lt r _ (m + 1) h1
    rw [List.foldl_cons, List.length_cons]
    rwa [show m + (r.length + 1) = m + 1 + r.length from by omega]
theorem dig_lt (s : ByteArray) (i : Nat) (hi : i ≤ 17) : dig s i < 100000000000000000 := by
  have h := fold_lt (s.data.toList.take i) 0 0 (by decide)
  have h2 : (s.data.toList.take i).length ≤ 17 := by rw [List.length_take]; omega
  have h3 : 10 ^ (0 + (s.data.toList.take i).length) ≤ 10 ^ 17 := Nat.pow_le_pow_right (by decide) (by omega)
  unfold dig
  exact Nat.lt_of_lt_of_le h h3
theorem fold_dec (u : Nat) : (decDigits u).foldl dst_ 0 = u := by
  induction u using Nat.strongRecOn with
  | _ u ih =>
    by_cases hu : u < 10
    · rw [dec_small hu]
      simp only [List.foldl_cons, List.foldl_nil, dst_]
      rw [one_digit hu, if_pos (by omega)]; omega
    · rw [dec_big hu, List.foldl_append, ih (u / 10) (by omega)]
      have hm : u % 10 < 10 := Nat.mod_lt _ (by decide)
      simp only [List.foldl_cons, List.foldl_nil, dst_]
      rw [one_digit hm, if_pos (by omega)]; omega
theorem dig_txt (v : Int) : dig (txt v) (txt v).size = v.natAbs := by
  unfold dig
  rw [txt_def, bl_list, bl_size, List.take_length]
  by_cases hneg : v < 0
  · obtain ⟨u, rfl⟩ : ∃ u : Nat, v = -(u : Int) := ⟨v.natAbs, by omega⟩
    rw [itoa_neg u (by omega), List.foldl_cons, show dst_ 0 45 = 0 from rfl, fold_dec]; omega
  · obtain ⟨u, rfl⟩ : ∃ u : Nat, v = u := ⟨v.toNat, by omega⟩
    rw [itoa_nonneg, fold_dec]; omega
theorem txt_inj {a b : Int} (ha : -9223372036854775808 ≤ a ∧ a ≤ 9223372036854775807) (hb : -9223372036854775808 ≤ b ∧ b ≤ 9223372036854775807) (h : txt a = txt b) : a = b := by
  have h1 := atoi_itoa ha
  rw [bl_inj h, atoi_itoa hb] at h1
  injection h1 with h1
  exact h1.symm
theorem dec_len : ∀ (k u : Nat), u < 10 ^ (k + 1) → (decDigits u).length ≤ k + 1
  | 0, u, h => by rw [dec_small (by omega)]; simp
  | k + 1, u, h => by
    by_cases hu : u < 10
    · rw [dec_small hu]; simp
    · rw [Nat.pow_succ] at h
      have := dec_len k (u / 10) (by omega)
      rw [dec_big hu, List.length_append, List.length_singleton]; omega
theorem txt_len {v : Int} (h : inB v = true) : (txt v).size ≤ 17 := by
  have hv := (inB_iff v).1 h
  rw [txt_def, bl_size]
  have h2 := dec_len 15 v.natAbs (by omega)
  by_cases hneg : v < 0
  · obtain ⟨u, rfl⟩ : ∃ u : Nat, v = -(u : Int) := ⟨v.natAbs, by omega⟩
    rw [itoa_neg u (by omega), List.length_cons]
    rw [Int.natAbs_neg, Int.natAbs_natCast] at h2; omega
  · obtain ⟨u, rfl⟩ : ∃ u : Nat, v = u := ⟨v.toNat, by omega⟩
    rw [itoa_nonneg]
    rw [Int.natAbs_natCast] at h2; omega
theorem txt_room {n : Int} (h : -9223372036854775808 ≤ n ∧ n ≤ 9223372036854775807) : (txt n).size ≤ 21 := by
  rw [txt_def, bl_size]; exact itoa_length_le n h.1 h.2
theorem inB_neg {n : Int} (h : inB n = true) : inB (-n) = true := by rw [inB_iff] at h ⊢; omega
theorem rps_long {s : ByteArray} (h : ((s.size : Nat) : Int) > 17) : ps s = (0, false) := by
  rcases ps_cases s with ⟨v, hv, rfl, _⟩ | ⟨_, e⟩
  · have := txt_len hv; omega
  · exact e
theorem rps_pos {s : ByteArray} {n : Int} (h : (inB n && (txt n == s)) = true) : ps s = (n, true) := by
  simp only [Bool.and_eq_true, beqB_eq] at h
  rw [← h.2, ps_txt (inB_64 h.1)]
  unfold wi; rw [h.1]; rfl
theorem rps_neg {s : ByteArray} {n : Int} (h : (inB n && (txt (-n) == s)) = true) : ps s = (-n, true) := by
  simp only [Bool.and_eq_true, beqB_eq] at h
  have h1 := inB_neg h.1
  rw [← h.2, ps_txt (inB_64 h1)]
  unfold wi; rw [h1]; rfl
theorem rps_no {s : ByteArray} {n : Int} (hn : n = ((dig s s.size : Nat) : Int)) (h : (inB n && (txt n == s)) = false) (h2 : (inB n && (txt (-n) == s)) = false) : ps s = (0, false) := by
  rcases ps_cases s with ⟨v, hv, rfl, _⟩ | ⟨_, e⟩
  · exfalso
    rw [dig_txt] at hn
    have hr := (inB_iff v).1 hv
    have hi : inB n = true := by rw [inB_iff]; omega
    rw [hi, Bool.true_and] at h h2
    by_cases hneg : v < 0
    · rw [show -n = v by omega, beqB_self] at h2; cases h2
    · rw [show n = v by omega, beqB_self] at h; cases h
  · exact e
/-! The reference's Text. -/
def tm (n : Int) : Nat := if n < 0 then 2 * n.natAbs + 1 else 2 * n.natAbs
theorem tm_neg {n : Int} (h : n < 0) : tm (-n) < tm n := by
  unfold tm
  rw [if_neg (show ¬ -n < 0 by omega), if_pos h]; omega
theorem td_nat (n : Int) : (n.tdiv 10).natAbs = n.natAbs / 10 := by rw [Int.natAbs_tdiv]; rfl
theorem tm_div {n : Int} (h : 10 ≤ n ∨ n ≤ -10) : tm (n.tdiv 10) < tm n := by
  have := td_nat n
  have key : ∀ (c d : Prop) [Decidable c] [Decidable d] (a b : Nat), 2 * a + 1 < 2 * b → (if c then 2 * a + 1 else 2 * a) < (if d then 2 * b + 1 else 2 * b) := fun c d _ _ a b hab => by by_cases hc : c <;> by_cases hd : d <;> simp only [hc, hd, if_true, if_false] <;> omega
  exact key _ _ _ _ (by omega)
theorem td_rng {n : Int} (h : -9223372036854775808 ≤ n ∧ n ≤ 9223372036854775807) : -9223372036854775808 ≤ n.tdiv 10 ∧ n.tdiv 10 ≤ 9223372036854775807 := by
  have := td_nat n
  omega
theorem md_nat (n : Int) : (n.tmod 10).natAbs = ld n := by rw [Int.natAbs_tmod]; rfl
theorem ld_neg {n : Int} (h : n.tmod 10 < 0) : IntKind.i64.wrap (-(n.tmod 10)) = ((ld n : Nat) : Int) := by
  have h1 := md_nat n
  have h2 : ld n < 10 := Nat.mod_lt _ (by decide)
  rw [wrap_i64 (by omega)]; omega
theorem ld_pos {n : Int} (h : ¬ n.tmod 10 < 0) : n.tmod 10 = ((ld n : Nat) : Int) := by
  have h1 := md_nat n
  omega
theorem ld_lt (n : Int) : ld n < 10 := Nat.mod_lt _ (by decide)
theorem part_le {n : Int} : (ByteArray.extract ⟨#[48, 49, 50, 51, 52, 53, 54, 55, 56, 57]⟩ (ld n) (ld n + 1)).size ≤ 10 := by
  rw [digit_part _ (ld_lt n), bl_size]; simp
theorem txt_dig' {n : Int} (h : n ≥ 0) (h2 : n < 10) : ByteArray.extract ⟨#[48, 49, 50, 51, 52, 53, 54, 55, 56, 57]⟩ n.toNat (n.toNat + 1) = txt n := by
  obtain ⟨u, rfl⟩ : ∃ u : Nat, n = u := ⟨n.toNat, by omega⟩
  exact txt_digit (by omega)
theorem ok_rng {l : List UInt8} {v : Int} (h : atoiAll l = .ok v) : -9223372036854775808 ≤ v ∧ v ≤ 9223372036854775807 := by
  unfold atoiAll at h
  split at h
  · cases h
  · rename_i c r
    simp only at h
    split at h
    · cases h
    · cases h
    · rename_i u hu
      split at h
      · cases h
      · split at h
        · cases h
        · rename_i h1 h2
          injection h with h
          subst h
          split <;> omega
end Nq
end Go.Proofs.YteaalclidffjgaaDoor
