/- What package flow's functions compute, in plain Lean. -/
import Derived.Test.YtcojkflgcccjeaaMix
import Derived.Test.YtcojkflgcccjeaaRowL
import Derived.Test.YtcojkflgcccjeaaInc
namespace Go.Proofs.Ytcojkflgcccjeaa
open Go Go.Eng
namespace Fl
structure Ev where
  th : Int
  ser : Int
  at_ : Int
  kind : Int
  name : ByteArray
  n : Int
  m : Int
  sA : Option Addr
  sn : Nat
  sc : Nat
  lo : Int
  hi : Int
structure Flow where
  id : Int
  ft : Int
  fs : Int
  tt : Int
  ts : Int
  send : Int
  recv : Int
instance : Inhabited Ev := ⟨⟨0, 0, 0, 0, ⟨#[]⟩, 0, 0, none, 0, 0, 0, 0⟩⟩
instance : Inhabited Flow := ⟨⟨0, 0, 0, 0, 0, 0, 0⟩⟩
def Ev.c (x : Ev) : List Value := [.int .i64 x.th, .int .i64 x.ser, .int .i64 x.at_, .int .i64 x.kind, .string x.name, .int .i64 x.n, .int .i64 x.m, .slice x.sA x.sn x.sc, .int .i64 x.lo, .int .i64 x.hi]
def Flow.c (x : Flow) : List Value := [.int .i64 x.id, .int .i64 x.ft, .int .i64 x.fs, .int .i64 x.tt, .int .i64 x.ts, .int .i64 x.send, .int .i64 x.recv]
def ic (x : Int) : List Value := [.int .i64 x]
theorem Ev.one (x : Ev) : ∀ u ∈ x.c, u.oneCell' = true := by simp [Ev.c, Value.oneCell']
theorem Flow.one (x : Flow) : ∀ u ∈ x.c, u.oneCell' = true := by simp [Flow.c, Value.oneCell']
theorem ic_one (x : Int) : ∀ u ∈ ic x, u.oneCell' = true := by simp [ic, Value.oneCell']
theorem Ev.of : ∀ cs, okAll [.int .i64, .int .i64, .int .i64, .int .i64, .str, .int .i64, .int .i64, .sl, .int .i64, .int .i64] cs → ∃ x, cs = Ev.c x ∧ (Lit.int .i64 x.n).wf = true := fun cs h => by
  obtain ⟨v0, v1, v2, v3, v4, v5, v6, v7, v8, v9, rfl, ⟨a, rfl, _⟩, ⟨b, rfl, _⟩, ⟨c, rfl, _⟩, ⟨d, rfl, _⟩, ⟨e, rfl, _⟩, ⟨f, rfl, hf⟩, ⟨g, rfl, _⟩, ⟨A, n, q, rfl⟩, ⟨i, rfl, _⟩, ⟨j, rfl, _⟩⟩ := okAll_10 h
  exact ⟨⟨a, b, c, d, e, f, g, A, n, q, i, j⟩, rfl, hf⟩
theorem Flow.of : ∀ cs, okAll [.int .i64, .int .i64, .int .i64, .int .i64, .int .i64, .int .i64, .int .i64] cs → ∃ x, cs = Flow.c x ∧ True := fun cs h => by
  obtain ⟨v0, v1, v2, v3, v4, v5, v6, rfl, ⟨a, rfl, _⟩, ⟨b, rfl, _⟩, ⟨c, rfl, _⟩, ⟨d, rfl, _⟩, ⟨e, rfl, _⟩, ⟨f, rfl, _⟩, ⟨g, rfl, _⟩⟩ := okAll_7 h
  exact ⟨⟨a, b, c, d, e, f, g⟩, rfl, trivial⟩
def timeF (e : Ev) : Int := max 0 (min e.lo 1000000000000)
/-! The sendings known so far. -/
def sget : List (Int × Ev) → Int → Option Ev
  | [], _ => none
  | (k, v) :: r, i => if i = k then some v else sget r i
def sset : List (Int × Ev) → Int → Ev → List (Int × Ev)
  | [], i, u => [(i, u)]
  | (k, v) :: r, i, u => if i = k then (k, u) :: r else (k, v) :: sset r i u
theorem sget_sset : ∀ (m : List (Int × Ev)) (i j : Int) (u : Ev), sget (sset m i u) j = if j = i then some u else sget m j
  | [], i, j, u => by simp only [sset, sget]
  | (k, v) :: r, i, j, u => by
    simp only [sset]
    by_cases h : i = k
    · subst h
      simp only [if_true, sget]
      by_cases hj : j = i <;> simp [hj]
    · simp only [h, if_false, sget, sget_sset r i j u]
      by_cases hj : j = k
      · subst hj; simp [Ne.symm h]
      · simp [hj]
def mp (s : List (Int × Ev)) : List (Int × Value) := s.map fun p => (p.1, .agg (Ev.c p.2).toArray)
theorem mp_set : ∀ (s : List (Int × Ev)) (i : Int) (e : Ev), mset (mp s) i (.agg (Ev.c e).toArray) = mp (sset s i e)
  | [], i, e => rfl
  | (k, v) :: r, i, e => by
    have := mp_set r i e
    simp only [mp, List.map_cons, mset, sset] at *
    split
    · rfl
    · simp only [List.map_cons, this]
theorem mp_get : ∀ (s : List (Int × Ev)) (i : Int), mget (mp s) i = (sget s i).map fun e => .agg (Ev.c e).toArray
  | [], i => rfl
  | (k, v) :: r, i => by
    have := mp_get r i
    simp only [mp, List.map_cons, mget, sget] at *
    split
    · rfl
    · exact this
theorem mp_val (s : List (Int × Ev)) (i : Int) : mval (mp s) i (.agg (Ev.c default).toArray) = .agg (Ev.c ((sget s i).getD default)).toArray := by
  unfold mval
  rw [mp_get]
  cases sget s i <;> rfl
theorem mp_has (s : List (Int × Ev)) (i : Int) : (mget (mp s) i).isSome = (sget s i).isSome := by
  rw [mp_get]; cases sget s i <;> rfl
def flowOf (s e : Ev) : Flow := ⟨e.n, s.th, s.ser, e.th, e.ser, timeF s, timeF e⟩
def stepF (st : List (Int × Ev) × List Flow) (e : Ev) : List (Int × Ev) × List Flow :=
  if e.kind == 6 then (sset st.1 e.n e, st.2) else if e.kind == 7 then (if (sget st.1 e.n).isSome then (st.1, st.2 ++ [flowOf ((sget st.1 e.n).getD default) e]) else st) else st
def run (o : List Ev) : List (Int × Ev) × List Flow := o.foldl stepF ([], [])
def ofF (o : List Ev) : List Flow := (run o).2
theorem run_take (o : List Ev) {i : Nat} (h : i < o.length) : run (o.take (i + 1)) = stepF (run (o.take i)) o[i]! := by
  rw [take_bang h, run, List.foldl_append]; rfl
theorem run_len (o : List Ev) : (run o).2.length ≤ o.length := by
  have key : ∀ (o : List Ev) (st : List (Int × Ev) × List Flow), (o.foldl stepF st).2.length ≤ st.2.length + o.length := by
    intro o
    induction o with
    | nil => intro st; simp
    | cons e r ih =>
      intro st
      have := ih (stepF st e)
      have h2 : (stepF st e).2.length ≤ st.2.length + 1 := by
        unfold stepF; split
        · simp
        · split
          · split <;> simp
          · simp
      simp only [List.foldl_cons, List.length_cons]; omega
  have := key o ([], [])
  simpa [run] using this
theorem run_take_len (o : List Ev) (i : Nat) : (run (o.take i)).2.length ≤ i := by
  have := run_len (o.take i)
  rw [List.length_take] at this; omega
def badB (n most : Int) : Bool := decide (n < 0) || decide (most < n)
def rangeB (f : Flow) : Bool := badB f.id 1000000000000000 || badB f.ft 1000000000000000 || badB f.fs 1000000000000000 || badB f.tt 1000000000000000 || badB f.ts 1000000000000000 || badB f.send 1000000000000 || badB f.recv 1000000000000
/-- The check of the flows from place i on, the one before being at i - 1. -/
def chk (l : List Flow) : List Flow → Nat → Int
  | [], _ => 0
  | f :: r, i => if rangeB f then 2 else if decide (f.recv < f.send) || (decide ((0 : Int) < (i : Int)) && decide (f.recv < l[i - 1]!.recv)) then 11 else chk l r (i + 1)
def betweenF (l : List Flow) (a b : Int) : List Flow := l.filter fun f => f.ft == a && f.tt == b
theorem between_take (l : List Flow) (a b : Int) {i : Nat} (h : i < l.length) : betweenF (l.take (i + 1)) a b = betweenF (l.take i) a b ++ if l[i]!.ft == a && l[i]!.tt == b then [l[i]!] else [] := by
  unfold betweenF
  rw [take_bang h, List.filter_append]
  congr 1
  simp only [List.filter_cons, List.filter_nil]
theorem between_len (l : List Flow) (a b : Int) (i : Nat) : (betweenF (l.take i) a b).length ≤ i := by
  have := List.length_filter_le (fun f : Flow => f.ft == a && f.tt == b) (l.take i)
  rw [List.length_take] at this
  unfold betweenF; omega
def eqFl (x y : Flow) : Bool := (x.id == y.id) && ((x.ft == y.ft) && (x.fs == y.fs)) && ((x.tt == y.tt) && (x.ts == y.ts)) && (x.send == y.send) && (x.recv == y.recv)
theorem eqFl_iff (x y : Flow) : eqFl x y = true ↔ x = y := by
  obtain ⟨a, b, c, d, e, f, g⟩ := x
  obtain ⟨a', b', c', d', e', f', g'⟩ := y
  simp [eqFl]
  constructor
  · rintro ⟨⟨⟨⟨h1, h2, h3⟩, h4, h5⟩, h6⟩, h7⟩; exact ⟨h1, h2, h3, h4, h5, h6, h7⟩
  · rintro ⟨h1, h2, h3, h4, h5, h6, h7⟩; exact ⟨⟨⟨⟨h1, h2, h3⟩, h4, h5⟩, h6⟩, h7⟩
instance : DecidableEq Flow := fun x y => if h : eqFl x y = true then .isTrue ((eqFl_iff x y).1 h) else .isFalse fun e => h ((eqFl_iff x y).2 e)
theorem bang_ext {α : Type} [Inhabited α] {a b : List α} (hl : a.length = b.length) (h : ∀ j, j < a.length → a[j]! = b[j]!) : a = b := by
  apply List.ext_getElem hl
  intro j h1 h2
  have := h j h1
  rwa [getElem!_pos a j h1, getElem!_pos b j h2] at this
theorem same_no {α : Type} [DecidableEq α] {a b : List α} (h : a.length ≠ b.length) : decide (a = b) = false := decide_eq_false fun e => h (by rw [e])
theorem same_at {α : Type} [Inhabited α] [DecidableEq α] {a b : List α} {i : Nat} (h : a[i]! ≠ b[i]!) : decide (a = b) = false := decide_eq_false fun e => h (by rw [e])
theorem ne_of_eqFl {x y : Flow} (h : (!eqFl x y) = true) : x ≠ y := fun e => by
  have := not_t h
  rw [(eqFl_iff x y).2 e] at this; cases this
theorem eq_of_eqFl {x y : Flow} (h : (!eqFl x y) = false) : x = y := (eqFl_iff x y).1 (not_f h)
theorem not_bad (n m : Int) : (decide (0 ≤ n) && decide (n ≤ m)) = !badB n m := by
  unfold badB
  by_cases h1 : 0 ≤ n <;> by_cases h2 : n ≤ m <;> simp [h1, h2, Int.not_lt.2, Int.not_le.1] <;> omega
/-- The last place ahead of k at which n is sent, or -1. -/
def lastIdx (o : List Ev) (n : Int) : Nat → Int
  | 0 => -1
  | k + 1 => if o[k]!.kind == 6 && o[k]!.n == n then (k : Int) else lastIdx o n k
theorem lastIdx_lt (o : List Ev) (n : Int) : ∀ k, -1 ≤ lastIdx o n k ∧ lastIdx o n k < k
  | 0 => by simp [lastIdx]
  | k + 1 => by
    have := lastIdx_lt o n k
    simp only [lastIdx]; split <;> omega
theorem last_step {o : List Ev} {n z : Int} (h0 : 0 ≤ z) (h : (o[z.toNat]!.kind == 6 && o[z.toNat]!.n == n) = false) : lastIdx o n (z - 1 + 1).toNat = lastIdx o n (z + 1).toNat := by
  rw [show (z - 1 + 1).toNat = z.toNat from by omega, show (z + 1).toNat = z.toNat + 1 from by omega, lastIdx, h]; rfl
theorem last_hit {o : List Ev} {n z : Int} (h0 : 0 ≤ z) (h : (o[z.toNat]!.kind == 6 && o[z.toNat]!.n == n) = true) : lastIdx o n (z + 1).toNat = z := by
  rw [show (z + 1).toNat = z.toNat + 1 from by omega, lastIdx, if_pos h]; omega
def lastEv (o : List Ev) (n : Int) (i : Nat) : Option Ev := if 0 ≤ lastIdx o n i then some o[(lastIdx o n i).toNat]! else none
/-- The sendings known so far are the last ones. -/
theorem sent_last (o : List Ev) (q : Int) : ∀ i, i ≤ o.length → sget (run (o.take i)).1 q = lastEv o q i
  | 0, _ => by simp [run, sget, lastEv, lastIdx]
  | i + 1, h => by
    have ih := sent_last o q i (by omega)
    rw [run_take o (by omega)]
    unfold stepF
    by_cases h6 : (o[i]!.kind == 6) = true
    · rw [if_pos h6, sget_sset]
      by_cases hq : q = o[i]!.n
      · rw [if_pos hq]
        unfold lastEv
        have e : lastIdx o q (i + 1) = (i : Int) := by rw [lastIdx, if_pos (by rw [h6, hq]; simp)]
        rw [e, if_pos (by omega)]; rfl
      · rw [if_neg hq, ih]
        unfold lastEv
        have e : lastIdx o q (i + 1) = lastIdx o q i := by rw [lastIdx, if_neg (fun hh => hq (eq_t (and_t hh).2).symm)]
        rw [e]
    · rw [if_neg h6]
      have e : lastIdx o q (i + 1) = lastIdx o q i := by rw [lastIdx, if_neg (fun hh => h6 (and_t hh).1)]
      have e2 : lastEv o q (i + 1) = lastEv o q i := by unfold lastEv; rw [e]
      rw [e2, ← ih]
      split
      · split <;> rfl
      · rfl
theorem ref_skip {st : List (Int × Ev) × List Flow} {e : Ev} (h : (!(e.kind == 7)) = true) : (stepF st e).2 = st.2 := by
  have h7 := not_t h
  unfold stepF
  split
  · rfl
  · rw [if_neg (by rw [h7]; exact Bool.false_ne_true)]
theorem six_seven {e : Ev} (h : (e.kind == 7) = true) : (e.kind == 6) = false := by
  have : e.kind = 7 := by simpa using h
  rw [this]; rfl
theorem ref_none {o : List Ev} {i : Nat} (hi : i < o.length) (h : (!(o[i]!.kind == 7)) = false) (hl : ¬ 0 ≤ lastIdx o o[i]!.n i) : (run (o.take (i + 1))).2 = (run (o.take i)).2 := by
  have h7 := not_f h
  rw [run_take o hi]
  unfold stepF
  rw [if_neg (by rw [six_seven h7]; exact Bool.false_ne_true), if_pos h7, sent_last o _ i (by omega)]
  unfold lastEv
  rw [if_neg hl]; rfl
theorem ref_some {o : List Ev} {i : Nat} (hi : i < o.length) (h : (!(o[i]!.kind == 7)) = false) (hl : 0 ≤ lastIdx o o[i]!.n i) : (run (o.take (i + 1))).2 = (run (o.take i)).2 ++ [flowOf o[(lastIdx o o[i]!.n i).toNat]! o[i]!] := by
  have h7 := not_f h
  rw [run_take o hi]
  unfold stepF
  rw [if_neg (by rw [six_seven h7]; exact Bool.false_ne_true), if_pos h7, sent_last o _ i (by omega)]
  unfold lastEv
  rw [if_pos hl]; rfl
/-- Whether n is received behind place a. -/
def recvd (o : List Ev) (n : Int) (a : Nat) : Bool := (o.drop (a + 1)).any fun e => e.kind == 7 && e.n == n
/-! The numbers that are open. -/
def stepO (m : List (Int × Value)) (e : Ev) : List (Int × Value) := if e.kind == 6 then mset m e.n (.bool true) else if e.kind == 7 then mdel m e.n else m
def opn (o : List Ev) : List (Int × Value) := o.foldl stepO []
theorem opn_take (o : List Ev) {i : Nat} (h : i < o.length) : opn (o.take (i + 1)) = stepO (opn (o.take i)) o[i]! := by
  rw [take_bang h, opn, List.foldl_append]; rfl
theorem stepO_nodup {m : List (Int × Value)} (h : (m.map (·.1)).Nodup) (e : Ev) : ((stepO m e).map (·.1)).Nodup := by
  unfold stepO
  split
  · cases hg : mget m e.n with
    | none =>
      rw [mset_keys_none m _ _ hg]
      refine List.nodup_append.2 ⟨h, by simp, fun a ha b hb => ?_⟩
      have : b = e.n := by simpa using hb
      subst this; rintro rfl
      exact mget_none m _ hg ha
    | some v => rw [mset_keys_some m _ _ v hg]; exact h
  · split
    · exact ((mdel_sub m _).map _).nodup h
    · exact h
theorem opn_nodup (o : List Ev) : ((opn o).map (·.1)).Nodup := by
  have key : ∀ (o : List Ev) (m : List (Int × Value)), (m.map (·.1)).Nodup → ((o.foldl stepO m).map (·.1)).Nodup := by
    intro o
    induction o with
    | nil => intro m h; exact h
    | cons e r ih => intro m h; exact ih _ (stepO_nodup h e)
  exact key o [] (by simp)
theorem stepO_get {m : List (Int × Value)} (h : (m.map (·.1)).Nodup) (e : Ev) (q : Int) : (mget (stepO m e) q).isSome = if e.kind == 6 && e.n == q then true else if e.kind == 7 && e.n == q then false else (mget m q).isSome := by
  unfold stepO
  by_cases h6 : (e.kind == 6) = true
  · rw [if_pos h6, mget_mset, h6]
    have h7 : (e.kind == 7) = false := by
      have : e.kind = 6 := by simpa using h6
      rw [this]; rfl
    by_cases hq : q = e.n
    · subst hq; simp
    · rw [if_neg hq, h7, show (e.n == q) = false from by simpa using fun hh : e.n = q => hq hh.symm]; rfl
  · rw [if_neg h6, show (e.kind == 6) = false from by simpa using h6]
    by_cases h7 : (e.kind == 7) = true
    · rw [if_pos h7, mget_mdel m _ _ h, h7]
      by_cases hq : q = e.n
      · subst hq; simp
      · rw [if_neg hq, show (e.n == q) = false from by simpa using fun hh : e.n = q => hq hh.symm]; rfl
    · rw [if_neg h7, show (e.kind == 7) = false from by simpa using h7]; rfl
theorem key_get : ∀ (m : List (Int × Value)) (q : Int), q ∈ m.map (·.1) ↔ (mget m q).isSome = true
  | [], q => by simp [mget]
  | (k, v) :: r, q => by
    have := key_get r q
    simp only [List.map_cons, List.mem_cons, mget]
    by_cases h : q = k
    · simp [h]
    · simp only [h, if_false, false_or]; exact this
/-- A number is open behind i events just if it was sent, and neither sent nor received since. -/
theorem open_iff (o : List Ev) (q : Int) : ∀ i, i ≤ o.length → ((mget (opn (o.take i)) q).isSome = true ↔ ∃ j, j < i ∧ o[j]!.kind = 6 ∧ o[j]!.n = q ∧ ∀ k, j < k → k < i → o[k]!.n = q → o[k]!.kind ≠ 6 ∧ o[k]!.kind ≠ 7)
  | 0, _ => by simp [opn, mget]
  | i + 1, h => by
    have ih := open_iff o q i (by omega)
    rw [opn_take o (by omega), stepO_get (opn_nodup _)]
    by_cases hn : o[i]!.n = q
    · rw [show (o[i]!.n == q) = true from by simpa using hn, Bool.and_true, Bool.and_true]
      by_cases h6 : o[i]!.kind = 6
      · rw [show (o[i]!.kind == 6) = true from by simpa using h6, if_pos rfl]
        exact ⟨fun _ => ⟨i, by omega, h6, hn, fun k h1 h2 => by omega⟩, fun _ => rfl⟩
      · rw [show (o[i]!.kind == 6) = false from by simpa using h6, if_neg Bool.false_ne_true]
        by_cases h7 : o[i]!.kind = 7
        · rw [show (o[i]!.kind == 7) = true from by simpa using h7, if_pos rfl]
          refine ⟨fun hh => (by cases hh), fun ⟨j, h1, h2, h3, h4⟩ => ?_⟩
          exfalso
          rcases Nat.lt_succ_iff_lt_or_eq.1 h1 with h1 | h1
          · exact (h4 i h1 (by omega) hn).2 h7
          · subst h1; exact h6 h2
        · rw [show (o[i]!.kind == 7) = false from by simpa using h7, if_neg Bool.false_ne_true, ih]
          constructor
          · rintro ⟨j, h1, h2, h3, h4⟩
            refine ⟨j, by omega, h2, h3, fun k hk hk2 hk3 => ?_⟩
            rcases Nat.lt_succ_iff_lt_or_eq.1 hk2 with hk2 | hk2
            · exact h4 k hk hk2 hk3
            · subst hk2; exact ⟨h6, h7⟩
          · rintro ⟨j, h1, h2, h3, h4⟩
            rcases Nat.lt_succ_iff_lt_or_eq.1 h1 with h1 | h1
            · exact ⟨j, h1, h2, h3, fun k hk hk2 hk3 => h4 k hk (by omega) hk3⟩
            · subst h1; exact absurd h2 h6
    · rw [show (o[i]!.n == q) = false from by simpa using hn, Bool.and_false, Bool.and_false, if_neg Bool.false_ne_true, if_neg Bool.false_ne_true, ih]
      constructor
      · rintro ⟨j, h1, h2, h3, h4⟩
        refine ⟨j, by omega, h2, h3, fun k hk hk2 hk3 => ?_⟩
        rcases Nat.lt_succ_iff_lt_or_eq.1 hk2 with hk2 | hk2
        · exact h4 k hk hk2 hk3
        · subst hk2; exact absurd hk3 hn
      · rintro ⟨j, h1, h2, h3, h4⟩
        rcases Nat.lt_succ_iff_lt_or_eq.1 h1 with h1 | h1
        · exact ⟨j, h1, h2, h3, fun k hk hk2 hk3 => h4 k hk (by omega) hk3⟩
        · subst h1; exact absurd h3 hn
def openF (o : List Ev) : List Int := Inc.puts ((opn o).map (·.1))
/-- What the reference takes as open at place j. -/
def isOpen (o : List Ev) (j : Nat) : Bool := o[j]!.kind == 6 && lastIdx o o[j]!.n o.length == (j : Int) && !recvd o o[j]!.n j
def refO (o : List Ev) (i : Nat) : List Int := (List.range i).flatMap fun j => if isOpen o j then [o[j]!.n] else []
theorem refO_succ (o : List Ev) (i : Nat) : refO o (i + 1) = refO o i ++ if isOpen o i then [o[i]!.n] else [] := by
  simp only [refO, List.range_succ, List.flatMap_append, List.flatMap_cons, List.flatMap_nil, List.append_nil]
theorem refO_len (o : List Ev) : ∀ i, (refO o i).length ≤ i
  | 0 => by simp [refO]
  | i + 1 => by
    have := refO_len o i
    rw [refO_succ, List.length_append]; split <;> simp <;> omega
theorem last_spec (o : List Ev) (q : Int) : ∀ (i j : Nat), lastIdx o q i = (j : Int) ↔ j < i ∧ o[j]!.kind = 6 ∧ o[j]!.n = q ∧ ∀ k, j < k → k < i → o[k]!.n = q → o[k]!.kind ≠ 6
  | 0, j => by simp [lastIdx]
  | i + 1, j => by
    have ih := last_spec o q i j
    rw [lastIdx]
    by_cases hc : (o[i]!.kind == 6 && o[i]!.n == q) = true
    · rw [if_pos hc]
      have h1 := eq_t (and_t hc).1
      have h2 := eq_t (and_t hc).2
      constructor
      · intro e
        have e : i = j := by omega
        subst e
        exact ⟨by omega, h1, h2, fun k hk hk2 => by omega⟩
      · rintro ⟨h3, h4, h5, h6⟩
        rcases Nat.lt_succ_iff_lt_or_eq.1 h3 with h3 | h3
        · exact absurd h1 (h6 i h3 (by omega) h2)
        · rw [h3]
    · rw [if_neg hc, ih]
      constructor
      · rintro ⟨h3, h4, h5, h6⟩
        refine ⟨by omega, h4, h5, fun k hk hk2 hk3 => ?_⟩
        rcases Nat.lt_succ_iff_lt_or_eq.1 hk2 with hk2 | hk2
        · exact h6 k hk hk2 hk3
        · subst hk2
          intro h7
          exact hc (by rw [show (o[k]!.kind == 6) = true from by simpa using h7, show (o[k]!.n == q) = true from by simpa using hk3]; rfl)
      · rintro ⟨h3, h4, h5, h6⟩
        rcases Nat.lt_succ_iff_lt_or_eq.1 h3 with h3 | h3
        · exact ⟨h3, h4, h5, fun k hk hk2 hk3 => h6 k hk (by omega) hk3⟩
        · subst h3
          exact absurd (by rw [show (o[j]!.kind == 6) = true from by simpa using h4, show (o[j]!.n == q) = true from by simpa using h5]; rfl) hc
theorem recvd_iff (o : List Ev) (q : Int) (a : Nat) : recvd o q a = true ↔ ∃ k, a < k ∧ k < o.length ∧ o[k]!.kind = 7 ∧ o[k]!.n = q := by
  unfold recvd
  rw [List.any_eq_true]
  constructor
  · rintro ⟨e, he, hc⟩
    obtain ⟨k, hk, rfl⟩ := List.mem_iff_getElem.1 he
    rw [List.length_drop] at hk
    rw [List.getElem_drop] at hc
    refine ⟨a + 1 + k, by omega, by omega, ?_, ?_⟩
    · rw [getElem!_pos o _ (by omega)]; exact eq_t (and_t hc).1
    · rw [getElem!_pos o _ (by omega)]; exact eq_t (and_t hc).2
  · rintro ⟨k, h1, h2, h3, h4⟩
    refine ⟨o[k]!, ?_, ?_⟩
    · rw [List.mem_iff_getElem]
      refine ⟨k - (a + 1), by rw [List.length_drop]; omega, ?_⟩
      rw [List.getElem_drop, getElem!_pos o k h2]
      congr 1; omega
    · rw [h3, h4]; simp
theorem mem_refO (o : List Ev) (q : Int) : q ∈ refO o o.length ↔ (mget (opn o) q).isSome = true := by
  have h := open_iff o q o.length (Nat.le_refl _)
  rw [List.take_length] at h
  rw [h]
  unfold refO
  rw [List.mem_flatMap]
  constructor
  · rintro ⟨j, hj, hq⟩
    have hj : j < o.length := by simpa using hj
    split at hq
    · rename_i hc
      have hq : q = o[j]!.n := by simpa using hq
      unfold isOpen at hc
      have h1 := and_t hc
      have h2 := and_t h1.1
      have hl := (last_spec o _ o.length j).1 (eq_t h2.2)
      have hr := not_t h1.2
      refine ⟨j, hj, hl.2.1, hq.symm, fun k hk hk2 hk3 => ⟨hl.2.2.2 k hk hk2 (by rw [hk3, hq]), fun h7 => ?_⟩⟩
      have : recvd o o[j]!.n j = true := (recvd_iff o _ j).2 ⟨k, hk, hk2, h7, by rw [hk3, hq]⟩
      rw [hr] at this; cases this
    · cases hq
  · rintro ⟨j, h1, h2, h3, h4⟩
    refine ⟨j, by simpa using h1, ?_⟩
    have hc : isOpen o j = true := by
      unfold isOpen
      have hl : lastIdx o o[j]!.n o.length = (j : Int) := (last_spec o _ o.length j).2 ⟨h1, h2, rfl, fun k hk hk2 hk3 => (h4 k hk hk2 (by rw [hk3, h3])).1⟩
      have hr : recvd o o[j]!.n j = false := by
        cases hh : recvd o o[j]!.n j with
        | false => rfl
        | true =>
          obtain ⟨k, hk, hk2, hk3, hk4⟩ := (recvd_iff o _ j).1 hh
          exact absurd hk3 (h4 k hk hk2 (by rw [hk4, h3])).2
      rw [hl, hr, h2]; simp
    rw [if_pos hc, h3]; simp
theorem ref_open (o : List Ev) : Inc.puts (refO o o.length) = openF o :=
  Inc.inc_unique _ (openF o) (Inc.inc_puts _) (Inc.inc_puts _) fun q => by rw [Inc.mem_puts, mem_refO, openF, Inc.mem_puts, key_get]
theorem recvd_start (o : List Ev) (q : Int) (a : Nat) : recvd o q a = (o.drop (a + 1)).any fun e => e.kind == 7 && e.n == q := rfl
theorem any_drop {o : List Ev} {p : Ev → Bool} {i : Nat} (h : i < o.length) : (o.drop i).any p = (p o[i]! || (o.drop (i + 1)).any p) := by
  rw [drop_bang h, List.any_cons]
def waitsF (o : List Ev) (q : Int) : Bool := (mget (opn o) q).isSome
theorem waits_take (o : List Ev) (q : Int) {i : Nat} (h : i < o.length) : waitsF (o.take (i + 1)) q = if o[i]!.kind == 6 && o[i]!.n == q then true else if o[i]!.kind == 7 && o[i]!.n == q then false else waitsF (o.take i) q := by
  unfold waitsF
  rw [opn_take o h, stepO_get (opn_nodup _)]
theorem waits_tt {e : Ev} {q : Int} (h1 : (e.n == q && e.kind == 6) = true) (h2 : (e.n == q && e.kind == 7) = true) : False := by
  have a := eq_t (and_t h1).2
  have b := eq_t (and_t h2).2
  omega
theorem and_swap {a b c : Bool} (h : (a && b) = c) : (b && a) = c := by rw [Bool.and_comm]; exact h
theorem mod_nat {k : Int} {n : Nat} (h : 0 ≤ k ∧ k ≤ 65535) : k % ((n : Int) + 1) = ((k.toNat % (n + 1) : Nat) : Int) := by
  obtain ⟨m, rfl⟩ := Int.eq_ofNat_of_zero_le h.1
  simp
theorem mod_le (k : Int) (n : Nat) : k.toNat % (n + 1) ≤ n := Nat.le_of_lt_succ (Nat.mod_lt _ (Nat.succ_pos n))
theorem of_prefix (o : List Ev) (j : Nat) : ofF (o.take j) <+: ofF o := by
  have key : ∀ (r : List Ev) (st : List (Int × Ev) × List Flow), st.2 <+: (r.foldl stepF st).2 := by
    intro r
    induction r with
    | nil => intro st; exact List.prefix_refl _
    | cons e r ih =>
      intro st
      refine List.IsPrefix.trans ?_ (ih (stepF st e))
      unfold stepF; split
      · exact List.prefix_refl _
      · split
        · split
          · exact List.prefix_append _ _
          · exact List.prefix_refl _
        · exact List.prefix_refl _
  have h : run o = (o.drop j).foldl stepF (run (o.take j)) := by
    unfold run
    rw [← List.foldl_append, List.take_append_drop]
  unfold ofF
  rw [h]
  exact key _ _
theorem of_len (o : List Ev) (j : Nat) : (ofF (o.take j)).length ≤ (ofF o).length := (of_prefix o j).length_le
theorem of_take (o : List Ev) (j : Nat) : ofF (o.take j) = (ofF o).take (ofF (o.take j)).length := List.prefix_iff_eq_take.1 (of_prefix o j)
theorem chk_zero {l : List Flow} (h1 : ∀ f ∈ l, rangeB f = false ∧ f.send ≤ f.recv) (h2 : ∀ i j, i < j → j < l.length → l[i]!.recv ≤ l[j]!.recv) : ∀ k, k ≤ l.length → chk l (l.drop k) k = 0
  | k, hk => by
    rcases Nat.eq_or_lt_of_le hk with e | hlt
    · rw [e, List.drop_length]; rfl
    · rw [drop_bang hlt, chk]
      have hm := h1 _ (bang_mem hlt)
      rw [if_neg (by rw [hm.1]; exact Bool.false_ne_true), if_neg]
      · exact chk_zero h1 h2 (k + 1) hlt
      · intro hc
        rcases or_t hc with hc | hc
        · have := dec_t hc; omega
        · have h3 := dec_t (and_t hc).1
          have h4 := dec_t (and_t hc).2
          have := h2 (k - 1) k (by omega) hlt
          omega
  termination_by k => l.length - k
/-- An event as FlowAccepts asks it. -/
def okEv (x : Ev) : Bool := decide (x.th < 0) || decide (1000000000000000 < x.th) || decide (x.ser < 0) || decide (1000000000000000 < x.ser) || decide (x.n < 0) || decide (1000000000000000 < x.n)
structure Acc (o : List Ev) (i : Nat) : Prop where
  sent : ∀ q e, sget (run (o.take i)).1 q = some e → e.n = q ∧ ∃ j, j < i ∧ e = o[j]!
  fl : ∀ f ∈ (run (o.take i)).2, rangeB f = false ∧ f.send ≤ f.recv ∧ ∃ j, j < i ∧ f.recv = timeF o[j]!
  inc : ((run (o.take i)).2).Pairwise fun f g => f.recv ≤ g.recv
theorem time_rng (e : Ev) : 0 ≤ timeF e ∧ timeF e ≤ 1000000000000 := by unfold timeF; omega
/-- What has been checked of the events ahead of i. -/
def AccUp (o : List Ev) (i : Nat) : Prop := ∀ j, j < i → okEv o[j]! = false ∧ (0 < j → timeF o[j - 1]! ≤ timeF o[j]!)
theorem AccUp.mono {o : List Ev} {i : Nat} (h : AccUp o i) : ∀ j k, j ≤ k → k < i → timeF o[j]! ≤ timeF o[k]!
  | j, 0, hj, hk => by have : j = 0 := by omega
                       subst this; exact Int.le_refl _
  | j, k + 1, hj, hk => by
    rcases Nat.eq_or_lt_of_le hj with e | hlt
    · subst e; exact Int.le_refl _
    · have h1 := AccUp.mono h j k (by omega) (by omega)
      have h2 := (h (k + 1) hk).2 (by omega)
      simp only [Nat.add_sub_cancel] at h2
      omega
theorem acc (o : List Ev) : ∀ i, i ≤ o.length → AccUp o i → Acc o i
  | 0, _, _ => ⟨fun q e h => by simp [run, sget] at h, fun f h => by simp [run] at h, by simp [run]⟩
  | i + 1, hi, hu => by
    have ih := acc o i (by omega) fun j hj => hu j (by omega)
    have hr := run_take o (show i < o.length by omega)
    have hok := (hu i (by omega)).1
    have keep : ∀ st, st = run (o.take i) → stepF st o[i]! = st → Acc o (i + 1) := fun st e1 e2 => by
      subst e1
      have e3 : run (o.take (i + 1)) = run (o.take i) := hr.trans e2
      exact ⟨fun q e h => by rw [e3] at h; obtain ⟨a, j, hj, hh⟩ := ih.sent q e h; exact ⟨a, j, by omega, hh⟩, fun f h => by rw [e3] at h; obtain ⟨a, b, j, hj, hh⟩ := ih.fl f h; exact ⟨a, b, j, by omega, hh⟩, by rw [e3]; exact ih.inc⟩
    by_cases h6 : (o[i]!.kind == 6) = true
    · have e3 : run (o.take (i + 1)) = (sset (run (o.take i)).1 o[i]!.n o[i]!, (run (o.take i)).2) := by rw [hr]; unfold stepF; rw [if_pos h6]
      refine ⟨fun q e h => ?_, fun f h => ?_, ?_⟩
      · rw [e3, sget_sset] at h
        split at h
        · rename_i hq
          injection h with h
          subst h
          exact ⟨hq.symm, i, by omega, rfl⟩
        · obtain ⟨a, j, hj, hh⟩ := ih.sent q e h; exact ⟨a, j, by omega, hh⟩
      · rw [e3] at h; obtain ⟨a, b, j, hj, hh⟩ := ih.fl f h; exact ⟨a, b, j, by omega, hh⟩
      · rw [e3]; exact ih.inc
    · by_cases h7 : (o[i]!.kind == 7) = true
      · cases hs : sget (run (o.take i)).1 o[i]!.n with
        | none => exact keep _ rfl (by unfold stepF; rw [if_neg h6, if_pos h7, hs]; rfl)
        | some s =>
          have e3 : run (o.take (i + 1)) = ((run (o.take i)).1, (run (o.take i)).2 ++ [flowOf s o[i]!]) := by rw [hr]; unfold stepF; rw [if_neg h6, if_pos h7, hs]; rfl
          obtain ⟨hn, j, hj, rfl⟩ := ih.sent _ s hs
          have hokj := (hu j (by omega)).1
          have hm := hu.mono j i (by omega) (by omega)
          refine ⟨fun q e h => ?_, fun f h => ?_, ?_⟩
          · rw [e3] at h; obtain ⟨a, j, hj, hh⟩ := ih.sent q e h; exact ⟨a, j, by omega, hh⟩
          · rw [e3] at h
            rcases List.mem_append.1 h with h | h
            · obtain ⟨a, b, j, hj, hh⟩ := ih.fl f h; exact ⟨a, b, j, by omega, hh⟩
            · have e := List.mem_singleton.1 h
              subst e
              refine ⟨?_, hm, i, by omega, rfl⟩
              have t1 := time_rng o[j]!
              have t2 := time_rng o[i]!
              unfold okEv at hok hokj
              simp only [Bool.or_eq_false_iff, decide_eq_false_iff_not] at hok hokj
              unfold rangeB badB flowOf
              simp only [Bool.or_eq_false_iff, decide_eq_false_iff_not]
              omega
          · rw [e3]
            refine List.pairwise_append.2 ⟨ih.inc, by simp, fun f hf g hg => ?_⟩
            have e := List.mem_singleton.1 hg
            subst e
            obtain ⟨_, _, k, hk, hh⟩ := ih.fl f hf
            rw [hh]
            exact hu.mono k i (by omega) (by omega)
      · exact keep _ rfl (by unfold stepF; rw [if_neg h6, if_neg h7])
theorem acc_chk {o : List Ev} (h : AccUp o o.length) : chk (ofF o) (ofF o) 0 = 0 := by
  have ha := acc o o.length (Nat.le_refl _) h
  have hfl := ha.fl
  have hinc := ha.inc
  rw [List.take_length] at hfl hinc
  have := chk_zero (l := ofF o) (fun f hf => ⟨(hfl f hf).1, (hfl f hf).2.1⟩) (fun i j hij hj => by
    rw [getElem!_pos (ofF o) i (by omega), getElem!_pos (ofF o) j hj]
    exact List.pairwise_iff_getElem.1 hinc i j (Nat.lt_trans hij hj) hj hij) 0 (Nat.zero_le _)
  rwa [List.drop_zero] at this
theorem acc_step {o : List Ev} {i : Nat} (h : AccUp o i) (hc : (okEv o[i]! || (decide ((0 : Int) < (i : Int)) && decide (timeF o[i]! < timeF o[i - 1]!))) = false) : AccUp o (i + 1) := fun j hj => by
  rcases Nat.lt_succ_iff_lt_or_eq.1 hj with hj | rfl
  · exact h j hj
  · refine ⟨(or_f hc).1, fun h0 => ?_⟩
    rcases and_f (or_f hc).2 with e | e
    · have := dec_f e; omega
    · have := dec_f e; omega
theorem between_at {l : List Flow} {a b : Int} {j : Nat} (hj : j < l.length) (hc : (l[j]!.ft == a && l[j]!.tt == b) = true) : (betweenF (l.take j) a b).length < (betweenF l a b).length ∧ (betweenF l a b)[(betweenF (l.take j) a b).length]! = l[j]! := by
  have hs : betweenF l a b = betweenF (l.take j) a b ++ l[j]! :: betweenF (l.drop (j + 1)) a b := by
    have : l = l.take j ++ l[j]! :: l.drop (j + 1) := by rw [← drop_bang hj, List.take_append_drop]
    unfold betweenF
    rw [this, List.filter_append, List.filter_cons, ← this, if_pos hc]
  rw [hs]
  refine ⟨by simp, ?_⟩
  rw [getElem!_pos _ _ (by simp), List.getElem_append_right (Nat.le_refl _)]
  simp
theorem div_yes {x y : Flow} (h : (!(x.ft == y.ft) || !(x.tt == y.tt)) = false) : (x.ft == y.ft && x.tt == y.tt) = true := by
  have h1 := or_f h
  rw [not_f h1.1, not_f h1.2]; rfl
theorem div_no {x y : Flow} (h : (!(x.ft == y.ft) || !(x.tt == y.tt)) = true) : (x.ft == y.ft && x.tt == y.tt) = false := by
  rcases or_t h with h | h
  · rw [not_t h]; rfl
  · rw [not_t h, Bool.and_false]
/-- What the map of open numbers holds: the numbers of events, each with 'true'. -/
theorem opn_fit {o : List Ev} (hw : ∀ x ∈ o, (Lit.int .i64 x.n).wf = true) : ∀ p ∈ opn o, (Lit.int .i64 p.1).wf = true ∧ ∃ x, p.2 = .bool x := by
  have mset_mem : ∀ (m : List (Int × Value)) (i : Int) (u : Value) (p : Int × Value), p ∈ mset m i u → p ∈ m ∨ p = (i, u) := by
    intro m
    induction m with
    | nil => intro i u p h; right; simpa [mset] using h
    | cons a r ih =>
      intro i u p h
      obtain ⟨k, v⟩ := a
      simp only [mset] at h
      split at h
      · rename_i e
        rcases List.mem_cons.1 h with h | h
        · right; rw [h, e]
        · left; exact List.mem_cons_of_mem _ h
      · rcases List.mem_cons.1 h with h | h
        · left; rw [h]; exact List.mem_cons_self
        · rcases ih i u p h with h | h
          · left; exact List.mem_cons_of_mem _ h
          · right; exact h
  have key : ∀ (o : List Ev) (m : List (Int × Value)), (∀ x ∈ o, (Lit.int .i64 x.n).wf = true) → (∀ p ∈ m, (Lit.int .i64 p.1).wf = true ∧ ∃ x, p.2 = .bool x) → ∀ p ∈ o.foldl stepO m, (Lit.int .i64 p.1).wf = true ∧ ∃ x, p.2 = .bool x := by
    intro o
    induction o with
    | nil => intro m _ hm; exact hm
    | cons e r ih =>
      intro m ho hm
      refine ih _ (fun x hx => ho x (List.mem_cons_of_mem _ hx)) fun p hp => ?_
      unfold stepO at hp
      split at hp
      · rcases mset_mem m _ _ p hp with h | h
        · exact hm p h
        · rw [h]; exact ⟨ho e List.mem_cons_self, true, rfl⟩
      · split at hp
        · exact hm p ((mdel_sub m _).subset hp)
        · exact hm p hp
  exact key o [] hw (by simp)
theorem opn_len (o : List Ev) : (opn o).length ≤ o.length := by
  have hset : ∀ (m : List (Int × Value)) (i : Int) (u : Value), (mset m i u).length ≤ m.length + 1 := by
    intro m
    induction m with
    | nil => intro i u; simp [mset]
    | cons a r ih =>
      intro i u
      obtain ⟨k, v⟩ := a
      have := ih i u
      simp only [mset]; split <;> simp only [List.length_cons] <;> omega
  have key : ∀ (o : List Ev) (m : List (Int × Value)), (o.foldl stepO m).length ≤ m.length + o.length := by
    intro o
    induction o with
    | nil => intro m; simp
    | cons e r ih =>
      intro m
      have h1 := ih (stepO m e)
      have h2 : (stepO m e).length ≤ m.length + 1 := by
        unfold stepO; split
        · exact hset _ _ _
        · split
          · have := (mdel_sub m e.n).length_le; omega
          · omega
      simp only [List.foldl_cons, List.length_cons]; omega
  have := key o []
  simpa [opn] using this
theorem open_mem (o : List Ev) (q : Int) : decide (q ∈ openF o) = waitsF o q := by
  have h : q ∈ openF o ↔ waitsF o q = true := by rw [openF, Inc.mem_puts, key_get]; rfl
  cases hw : waitsF o q with
  | true => exact decide_eq_true (h.2 hw)
  | false => exact decide_eq_false fun hh => by rw [h.1 hh] at hw; cases hw
/-- The flow that ends at a place. -/
theorem ends_at {o : List Ev} {i : Nat} (hi : i < o.length) (h : (!(o[i]!.kind == 7)) = false) (hl : 0 ≤ lastIdx o o[i]!.n i) :
    (run (o.take i)).2.length < (ofF o).length ∧ (ofF o)[(run (o.take i)).2.length]! = flowOf o[(lastIdx o o[i]!.n i).toNat]! o[i]! := by
  obtain ⟨t, ht⟩ := of_prefix o (i + 1)
  have e : ofF (o.take (i + 1)) = (run (o.take i)).2 ++ [flowOf o[(lastIdx o o[i]!.n i).toNat]! o[i]!] := ref_some hi h hl
  rw [e] at ht
  rw [← ht]
  refine ⟨by simp, ?_⟩
  rw [getElem!_pos _ _ (by simp)]
  simp
theorem ends_last {o : List Ev} {i j : Nat} {z : Int} (hj : j = i) (hz : z = lastIdx o o[i]!.n j) {b : Bool} (h : (b || decide (z < 0)) = false) : 0 ≤ lastIdx o o[i]!.n i := by
  subst hj; rw [← hz]
  have := dec_f (or_f h).2
  omega
theorem ends_skip {o : List Ev} {i j : Nat} {z : Int} (hi : i < o.length) (hj : j = i) (hz : z = lastIdx o o[i]!.n j) (h : (!(o[i]!.kind == 7) || decide (z < 0)) = true) : (run (o.take (i + 1))).2 = (run (o.take i)).2 := by
  subst hj
  cases hk : (!(o[j]!.kind == 7)) with
  | true => rw [run_take o hi]; exact ref_skip hk
  | false =>
    rw [hk, Bool.false_or] at h
    exact ref_none hi hk (by rw [← hz]; have := dec_t h; omega)
theorem ends_step {o : List Ev} {i j : Nat} {z : Int} (hi : i < o.length) (hj : j = i) (hz : z = lastIdx o o[i]!.n j) (h : (!(o[i]!.kind == 7) || decide (z < 0)) = false) : (run (o.take (i + 1))).2.length = (run (o.take i)).2.length + 1 := by
  rw [ref_some hi (or_f h).1 (ends_last hj hz h), List.length_append]; rfl
theorem ends_no {l : List Flow} {k : Nat} {s e : Ev} (h1 : k < l.length) (h2 : l[k]! = flowOf s e) {n : Nat} (hn : l.length = n)
    (h : (((decide ((k : Int) ≥ (n : Int)) || !(l[k]!.id == e.n)) || !((l[k]!.tt == e.th) && (l[k]!.ts == e.ser))) || !((l[k]!.ft == s.th) && (l[k]!.fs == s.ser))) = true) : False := by
  rw [h2] at h
  simp [flowOf] at h
  omega
end Fl
end Go.Proofs.Ytcojkflgcccjeaa
