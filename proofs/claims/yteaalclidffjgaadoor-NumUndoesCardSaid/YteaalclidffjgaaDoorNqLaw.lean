/- The laws of the chapter in plain terms. Conditions: none. -/
import Derived.Test.YteaalclidffjgaaDoorNqEx
namespace Go.Proofs.YteaalclidffjgaaDoor
open Go Go.Eng Go.Lib
namespace Nq
theorem ad_comm (a b : Int) : ad a b = ad b a := by
  unfold ad; rw [Bool.and_comm, Int.add_comm]
theorem rnd_comm (a b c : Int) (up : Bool) : rnd a b c up = rnd b a c up := by
  have h1 : gd a b c = gd b a c := by unfold gd; rw [Bool.and_comm (inB a)]
  have h2 : pr a b = pr b a := by unfold pr; rw [Int.mul_comm]
  have h3 : ng a b = ng b a := by unfold ng; cases decide (a < 0) <;> cases decide (b < 0) <;> rfl
  unfold rnd; rw [h1, h2, h3]
theorem ad_false {a b : Int} (h : (ad a b).2 = false) : ad a b = (0, false) := by
  unfold ad wi at h ⊢
  cases ha : inB a <;> cases hb : inB b <;> cases hc : inB (a + b) <;> simp_all
theorem ad_true {a b : Int} (h : (ad a b).2 = true) : ad a b = (a + b, true) ∧ inB a = true ∧ inB b = true ∧ inB (a + b) = true := by
  unfold ad wi at h ⊢
  cases ha : inB a <;> cases hb : inB b <;> cases hc : inB (a + b) <;> simp_all
theorem und_back {a b : Int} (h : (ad a b).2 = true) : ad (ad a b).1 (-b) = (a, true) := by
  obtain ⟨h1, h2, h3, h4⟩ := ad_true h
  rw [h1]
  show ad (a + b) (-b) = (a, true)
  have h5 := inB_neg h3
  unfold ad
  rw [h4, h5, show a + b + -b = a by omega]
  unfold wi
  rw [h2]; rfl
/-! Rounded quotients of small operands. -/
theorem fl_of {P d : Int} (hd : 0 < d) : (0 ≤ P → P / d = P.tdiv d ∧ -((-P) / d) = if P % d > 0 then P.tdiv d + 1 else P.tdiv d) := by
  intro hP
  have h1 : P.tdiv d = P / d := Int.tdiv_eq_ediv_of_nonneg hP
  rw [h1]
  refine ⟨rfl, ?_⟩
  have h2 := Int.mul_ediv_add_emod P d
  have h3 := Int.emod_nonneg P (show d ≠ 0 by omega)
  have h4 := Int.emod_lt_of_pos P hd
  have h5 := Int.mul_ediv_add_emod (-P) d
  have h6 := Int.emod_nonneg (-P) (show d ≠ 0 by omega)
  have h7 := Int.emod_lt_of_pos (-P) hd
  generalize P / d = q at *
  generalize P % d = r at *
  generalize (-P) / d = q' at *
  generalize (-P) % d = r' at *
  have h8 : d * (q + q') = -(r + r') := by rw [Int.mul_add]; omega
  split
  · have h9 : q + q' = -1 := by
      rcases Int.lt_trichotomy (q + q') (-1) with h | h | h
      · exfalso
        have := Int.mul_le_mul_of_nonneg_left (show q + q' ≤ -2 by omega) (show 0 ≤ d by omega)
        omega
      · exact h
      · exfalso
        have := Int.mul_le_mul_of_nonneg_left (show 0 ≤ q + q' by omega) (show 0 ≤ d by omega)
        omega
    omega
  · have h9 : q + q' = 0 := by
      rcases Int.lt_trichotomy (q + q') 0 with h | h | h
      · exfalso
        have := Int.mul_le_mul_of_nonneg_left (show q + q' ≤ -1 by omega) (show 0 ≤ d by omega)
        omega
      · exact h
      · exfalso
        have := Int.mul_le_mul_of_nonneg_left (show 1 ≤ q + q' by omega) (show 0 ≤ d by omega)
        omega
    omega
theorem pr_abs (m n : Int) : pr m n = if ng m n then -(m * n) else m * n := by
  unfold pr mag ng
  by_cases h1 : m < 0 <;> by_cases h2 : n < 0 <;> simp [h1, h2, Int.neg_mul, Int.mul_neg]
theorem inB_abs {q : Int} (h : 0 ≤ q) (b : Bool) : inB (if b then -q else q) = decide (q ≤ 1000000000000000) := by
  unfold inB
  cases b with
  | true => simp only [if_true]; rw [← Bool.decide_and]; exact decide_eq_decide.2 (by omega)
  | false => simp only [Bool.false_eq_true, if_false]; rw [← Bool.decide_and]; exact decide_eq_decide.2 (by omega)
theorem rnd_wi {a b c : Int} {up : Bool} (h : gd a b c = true) : rnd a b c up = wi (if ng a b then -(if 0 < pr a b % c ∧ up ≠ ng a b then pr a b / c + 1 else pr a b / c) else (if 0 < pr a b % c ∧ up ≠ ng a b then pr a b / c + 1 else pr a b / c)) true := by
  have hh := gd_iff.1 h
  have hp := pr_rng hh.1 hh.2.1
  have h0 : 0 ≤ pr a b / c := Int.ediv_nonneg hp.1 (by omega)
  rw [rnd_eq up h rfl]
  unfold wi
  rw [Bool.true_and, inB_abs (by split <;> omega)]
  simp only [decide_eq_true_eq]
/-- Floor and Ceil, said of the product. -/
theorem rnd_fl {m n d : Int} (h : gd m n d = true) : rnd m n d false = wi (m * n / d) true := by
  rw [rnd_wi h]
  have hd := (gd_iff.1 h).2.2.1
  have hh := gd_iff.1 h
  have hp := (pr_rng hh.1 hh.2.1).1
  congr 1
  have hpr := pr_abs m n
  cases hn : ng m n with
  | true =>
    rw [hn, if_pos rfl] at hpr
    rw [if_pos rfl]
    obtain ⟨_, h2⟩ := fl_of (P := pr m n) (d := d) (by omega) hp
    rw [Int.tdiv_eq_ediv_of_nonneg hp, show -pr m n = m * n by omega] at h2
    by_cases hr : 0 < pr m n % d
    · rw [if_pos hr] at h2; rw [if_pos ⟨hr, by decide⟩]; omega
    · rw [if_neg hr] at h2; rw [if_neg (fun q => hr q.1)]; omega
  | false =>
    rw [hn, if_neg Bool.false_ne_true] at hpr
    rw [if_neg Bool.false_ne_true, if_neg (fun q => q.2 rfl), hpr]
theorem rnd_ce {m n d : Int} (h : gd m n d = true) : rnd m n d true = wi (-(-(m * n) / d)) true := by
  rw [rnd_wi h]
  have hd := (gd_iff.1 h).2.2.1
  have hh := gd_iff.1 h
  have hp := (pr_rng hh.1 hh.2.1).1
  congr 1
  have hpr := pr_abs m n
  cases hn : ng m n with
  | true =>
    rw [hn, if_pos rfl] at hpr
    rw [if_pos rfl, if_neg (fun q => q.2 rfl), hpr]
  | false =>
    rw [hn, if_neg Bool.false_ne_true] at hpr
    rw [if_neg Bool.false_ne_true]
    obtain ⟨_, h2⟩ := fl_of (P := pr m n) (d := d) (by omega) hp
    rw [Int.tdiv_eq_ediv_of_nonneg hp] at h2
    rw [← hpr]
    by_cases hr : 0 < pr m n % d
    · rw [if_pos hr] at h2; rw [if_pos ⟨hr, by decide⟩]; omega
    · rw [if_neg hr] at h2; rw [if_neg (fun q => hr q.1)]; omega
theorem wi_2 (n : Int) : (wi n true).2 = inB n := by unfold wi; cases inB n <;> rfl
theorem wi_1 {n : Int} (h : inB n = true) : (wi n true).1 = n := by unfold wi; rw [h]; rfl
theorem half_rng {a m : Int} (h : -2147483648 ≤ a ∧ a ≤ 2147483647) (e : a.tdiv 2 = m) : -1073741824 ≤ m ∧ m ≤ 1073741823 := by
  have h1 : (a.tdiv 2).natAbs = a.natAbs / 2 := by rw [Int.natAbs_tdiv]; rfl
  rcases Int.lt_or_le a 0 with h2 | h2
  · have : a.tdiv 2 = -((-a).tdiv 2) := by rw [Int.neg_tdiv, Int.neg_neg]
    rw [Int.tdiv_eq_ediv_of_nonneg (show 0 ≤ -a by omega)] at this
    omega
  · rw [Int.tdiv_eq_ediv_of_nonneg h2] at e; omega
theorem prod_rng {m n P : Int} (hm : -1073741824 ≤ m ∧ m ≤ 1073741823) (hn : -1073741824 ≤ n ∧ n ≤ 1073741823) (e : m * n = P) : -1152921504606846976 ≤ P ∧ P ≤ 1152921504606846976 := by
  have h1 : (m * n).natAbs ≤ 1073741824 * 1073741824 := by
    rw [Int.natAbs_mul]
    exact Nat.mul_le_mul (by omega) (by omega)
  omega
theorem quo_rng {P d T : Int} (hd : 1 ≤ d) (hP : -1152921504606846976 ≤ P ∧ P ≤ 1152921504606846976) (e : P.tdiv d = T) : -1152921504606846976 ≤ T ∧ T ≤ 1152921504606846976 := by
  have h1 : T.natAbs = P.natAbs / d.natAbs := by rw [← e, Int.natAbs_tdiv]; rfl
  have h2 := Nat.div_le_self P.natAbs d.natAbs
  omega
theorem wt {x y : Int} (e : x = y) (h : -9223372036854775808 ≤ y ∧ y ≤ 9223372036854775807) : IntKind.i64.wrap x = y := by rw [e]; exact wrap_i64 h
/-- What is known of the quotients. -/
structure RQ (P d T F C : Int) : Prop where
  lo : d * F ≤ P
  lo' : P < d * F + d
  hi : P ≤ d * C
  hi' : d * C < P + d
  cs : (0 ≤ P ∧ 0 ≤ T ∧ F = T ∧ (C = T ∨ C = T + 1)) ∨ (P ≤ 0 ∧ T ≤ 0 ∧ C = T ∧ (F = T ∨ F = T - 1))
theorem rq {P d T : Int} (hd : 1 ≤ d) (e : P.tdiv d = T) : RQ P d T (P / d) (-(-P / d)) := by
  have h1 := Int.mul_ediv_add_emod P d
  have h2 := Int.emod_nonneg P (show d ≠ 0 by omega)
  have h3 := Int.emod_lt_of_pos P (show 0 < d by omega)
  have h4 := Int.mul_ediv_add_emod (-P) d
  have h5 := Int.emod_nonneg (-P) (show d ≠ 0 by omega)
  have h6 := Int.emod_lt_of_pos (-P) (show 0 < d by omega)
  have h7 : d * -(-P / d) = -(d * (-P / d)) := Int.mul_neg ..
  refine ⟨by omega, by omega, by omega, by omega, ?_⟩
  rcases Int.lt_or_le P 0 with hP | hP
  · right
    obtain ⟨g1, g2⟩ := fl_of (P := -P) (d := d) (by omega) (by omega)
    have q : (-P).tdiv d = -T := by rw [Int.neg_tdiv, e]
    have q2 : 0 ≤ (-P).tdiv d := Int.tdiv_nonneg (by omega) (by omega)
    rw [q] at g1 g2 q2
    rw [Int.neg_neg] at g2
    refine ⟨by omega, by omega, by omega, ?_⟩
    split at g2 <;> omega
  · left
    obtain ⟨g1, g2⟩ := fl_of (P := P) (d := d) (by omega) hP
    have q2 : 0 ≤ P.tdiv d := Int.tdiv_nonneg hP (by omega)
    rw [e] at g1 g2 q2
    refine ⟨hP, q2, g1, ?_⟩
    split at g2 <;> omega
theorem gd_small {m n d : Int} (hm : -1073741824 ≤ m ∧ m ≤ 1073741824) (hn : -1073741824 ≤ n ∧ n ≤ 1073741824) (hd : 1 ≤ d ∧ d ≤ 2147483647) : gd m n d = true := by
  rw [gd_iff, inB_iff, inB_iff]; omega
/-- The three results, at small operands. -/
theorem three {m n d P T : Int} (hm : -1073741824 ≤ m ∧ m ≤ 1073741823) (hn : -1073741824 ≤ n ∧ n ≤ 1073741823) (hd : 1 ≤ d ∧ d ≤ 2147483647) (hP : m * n = P) (hT : P.tdiv d = T) :
    ∃ F C, RQ P d T F C ∧ rnd m n d false = wi F true ∧ rnd m n d true = wi C true ∧ rnd (-m) n d false = wi (-C) true := by
  refine ⟨_, _, rq hd.1 hT, ?_, ?_, ?_⟩
  · rw [rnd_fl (gd_small (by omega) (by omega) hd), hP]
  · rw [rnd_ce (gd_small (by omega) (by omega) hd), hP]
  · rw [rnd_fl (gd_small (by omega) (by omega) hd), Int.neg_mul, hP, Int.neg_neg]
section
variable {P d T F C : Int}
theorem rq_out (h : RQ P d T F C) (hT : T > 1000000000000000 ∨ T < -1000000000000000) : inB F = false ∧ inB C = false := by
  have hc := h.cs
  unfold inB
  simp only [Bool.and_eq_false_iff, decide_eq_false_iff_not]
  omega
theorem rq_edge (h : RQ P d T F C) (hT : -1000000000000000 ≤ T ∧ T ≤ 1000000000000000) (hb : inB F = false ∨ inB C = false ∨ inB (-C) = false) : T = 1000000000000000 ∨ T = -1000000000000000 := by
  have hc := h.cs
  unfold inB at hb
  simp only [Bool.and_eq_false_iff, decide_eq_false_iff_not] at hb
  omega
end
/-! Quantiles. -/
theorem qt_false {l : List Int} {k n : Int} (h : (qt l k n).2 = false) : qd l k n = true := by
  cases hd : qd l k n with
  | true => rfl
  | false => rw [qt_good hd] at h; cases h
theorem qt_true {l : List Int} {k n : Int} (h : (qt l k n).2 = true) : qd l k n = false := by
  cases hd : qd l k n with
  | false => rfl
  | true => rw [qt_bad hd] at h; cases h
theorem qd_at {l : List Int} {k k' n : Int} (h : qd l k n = false) (h0 : 0 ≤ k') (h1 : k' ≤ n) : qd l k' n = false := by
  obtain ⟨g1, g2, g3, g4, g5⟩ := qd_no h
  unfold qd
  simp only [Bool.or_eq_false_iff, beq_eq_false_iff_ne, decide_eq_false_iff_not]
  omega
theorem q_range {l : List Int} {n : Int} (h : qd l n n = false) {j : Nat} (hj : j < l.length) : (qt l 0 n).1 ≤ l[j]! ∧ l[j]! ≤ (qt l n n).1 := by
  obtain ⟨g1, g2, g3, g4, g5⟩ := qd_no h
  have h0 := qd_at h (k' := 0) (by omega) (by omega)
  rw [qt_good h0, qt_good h]
  have hs := Inc.srt_sorted l
  have hl := Inc.srt_len l
  obtain ⟨i, hi, e⟩ := mem_bang ((Inc.srt_mem l _).2 (bang_in hj))
  rw [← e, q_first h0, q_last h]
  exact ⟨srt_at hs (Nat.zero_le _) hi, srt_at hs (by omega) (by omega)⟩
theorem rev_step {l : List Int} {j : Nat} (h : j - 1 < l.length) (h0 : 0 < j) : (l.drop (j - 1)).reverse = (l.drop j).reverse ++ [l[j - 1]!] := by
  rw [List.drop_eq_getElem_cons h, List.reverse_cons, show j - 1 + 1 = j by omega, List.getElem!_eq_getElem?_getD, List.getElem?_eq_getElem h]
  rfl
theorem in_step {l : List Int} {x : Int} {i : Nat} {b : Bool} (h : ∀ j, j < i → l[j]! = x → b = true) : ∀ j, j < i + 1 → l[j]! = x → (b || (l[i]! == x)) = true := by
  intro j hj e
  rcases Nat.lt_succ_iff_lt_or_eq.1 hj with hj | rfl
  · rw [h j hj e]; rfl
  · rw [e, beq_self_eq_true, Bool.or_true]
theorem rk_fin {l : List Int} {k n : Int} {i : Nat} {b : Bool} (hg : qd l k n = false) (inv : ∀ j, j < i → l[j]! = (qt l k n).1 → b = true) (hi : l.length ≤ i) :
    ((((((((b && ((qt l.reverse k n).1 == (qt l k n).1)) && (qt l.reverse k n).2) && (qt l 0 n).2) && (qt l n n).2) && (qt l (min n (k + 1)) n).2) && decide ((qt l 0 n).1 ≤ (qt l k n).1)) && decide ((qt l k n).1 ≤ (qt l (min n (k + 1)) n).1)) && decide ((qt l (min n (k + 1)) n).1 ≤ (qt l n n).1)) = true := by
  obtain ⟨g1, g2, g3, g4, g5⟩ := qd_no hg
  have h0 := qd_at hg (k' := 0) (by omega) (by omega)
  have h1 := qd_at hg (k' := n) (by omega) (by omega)
  have h2 := qd_at hg (k' := min n (k + 1)) (by omega) (by omega)
  have hm : b = true := by
    obtain ⟨j, hj, e⟩ := mem_bang (q_is hg)
    exact inv j (by omega) (by rw [qt_good hg]; exact e)
  rw [qt_rev, hm, qt_good hg, qt_good h0, qt_good h1, qt_good h2]
  have m1 := q_mono h0 hg (by omega)
  have m2 := q_mono hg h2 (by omega)
  have m3 := q_mono h2 h1 (by omega)
  rw [decide_eq_true m1, decide_eq_true m2, decide_eq_true m3, beq_self_eq_true]
  rfl
/-! Texts. -/
theorem ps_back (s : ByteArray) : (!(ps s).2 || (txt (ps s).1 == s)) = true := by
  rcases ps_cases s with ⟨v, _, rfl, e⟩ | ⟨_, e⟩
  · rw [e, beqB_self]; rfl
  · rw [e]; rfl
theorem tx_fin (s : ByteArray) : (((((ps s).1 == (ps s).1) && ((ps s).2 == (ps s).2)) && (!(ps s).2 || (txt (ps s).1 == s))) && true) = true := by
  rw [ps_back, beq_self_eq_true, beq_self_eq_true]; rfl
theorem tx_dead {n : Int} (hn : -9223372036854775808 ≤ n ∧ n ≤ 9223372036854775807)
    (h : ((((!(txt n == txt n)) || (!((ps (txt n)).2 == inB n))) || ((ps (txt n)).2 && (!((ps (txt n)).1 == n)))) || ((!(ps (txt n)).2) && (!((ps (txt n)).1 == 0)))) = true) : False := by
  rw [ps_txt hn, beqB_self] at h
  unfold wi at h
  cases hi : inB n <;> rw [hi] at h <;> simp at h
theorem ps_rng (s : ByteArray) : -1000000000000000 ≤ (ps s).1 ∧ (ps s).1 ≤ 1000000000000000 := by
  rcases ps_cases s with ⟨v, hv, rfl, e⟩ | ⟨_, e⟩
  · rw [e]; exact (inB_iff v).1 hv
  · rw [e]; decide
end Nq
end Go.Proofs.YteaalclidffjgaaDoor
