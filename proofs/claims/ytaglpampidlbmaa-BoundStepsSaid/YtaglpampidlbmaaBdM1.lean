/- Shortest ways by repeated use of edges, in plain terms. Conditions: none.
   Constraints between readings and the graphs that stand for them, in plain terms. Conditions: none.
   The program's graph stands for the constraints, in plain terms. Conditions: none.
   A further reading finds a time, in plain terms. Conditions: none.
   One edge of a round, as the program uses it; products. Conditions: none. -/
import Derived.Test.YtaglpampidlbmaaBdSpec
import Derived.Test.YtaglpampidlbmaaCkM1
namespace Go.Proofs.Ytaglpampidlbmaa
open Go Go.Eng
namespace Bd
def val (d : List Int) (v : Int) : Int := d[v.toNat]!
/-- An edge between nodes below n, of a weight of at most W. -/
def EdOK (n : Nat) (W : Int) (e : Ed) : Prop := 0 ≤ e.u ∧ e.u < n ∧ 0 ≤ e.v ∧ e.v < n ∧ -W ≤ e.w ∧ e.w ≤ W
/-- Numbers that are far, or at most B. -/
def Bnd (F B : Int) (d : List Int) : Prop := ∀ x ∈ d, x = F ∨ (-B ≤ x ∧ x ≤ B)
theorem Bnd.mono {F B B' : Int} {d : List Int} (h : Bnd F B d) (hb : B ≤ B') : Bnd F B' d := fun x hx => by
  rcases h x hx with h | h
  · exact .inl h
  · exact .inr (by omega)
theorem val_mem {d : List Int} {v : Int} (h0 : 0 ≤ v) (h : v < d.length) : val d v ∈ d := by
  unfold val
  have : v.toNat < d.length := by omega
  rw [getElem!_pos d v.toNat this]
  exact List.getElem_mem this
theorem Bnd.at {F B : Int} {d : List Int} (h : Bnd F B d) {v : Int} (h0 : 0 ≤ v) (hv : v < d.length) : val d v = F ∨ (-B ≤ val d v ∧ val d v ≤ B) := h _ (val_mem h0 hv)
theorem val_set {d : List Int} {v u x : Int} (hv : 0 ≤ v) (hu : 0 ≤ u) (hl : v < d.length) : val (d.set v.toNat x) u = if u = v then x else val d u := by
  unfold val
  have h1 : v.toNat < d.length := by omega
  by_cases h : u = v
  · subst h
    rw [if_pos rfl, getElem!_pos (d.set u.toNat x) u.toNat (by simpa using h1), List.getElem_set_self]
  · rw [if_neg h]
    have hne : v.toNat ≠ u.toNat := by omega
    by_cases hk : u.toNat < d.length
    · rw [getElem!_pos (d.set v.toNat x) u.toNat (by simpa using hk), getElem!_pos d u.toNat hk, List.getElem_set_ne hne]
    · rw [getElem!_neg (d.set v.toNat x) u.toNat (by simpa using hk), getElem!_neg d u.toNat hk]
/-! ### Ways -/
inductive Way (F : Int) (n : Nat) (es : List Ed) (d0 : List Int) : Int → Int → Prop
  | start (v : Int) (h0 : 0 ≤ v) (hn : v < n) (hf : val d0 v < F) : Way F n es d0 v (val d0 v)
  | step (e : Ed) (L : Int) (he : e ∈ es) (h : Way F n es d0 e.u L) : Way F n es d0 e.v (L + e.w)
/-- A bound from below that the edges respect. -/
structure Pot (F : Int) (n : Nat) (es : List Ed) (d0 : List Int) (b : Int → Int) : Prop where
  start : ∀ v : Int, 0 ≤ v → v < n → val d0 v < F → b v ≤ val d0 v
  step : ∀ e ∈ es, b e.v ≤ b e.u + e.w
section
variable {F W B : Int} {n : Nat} {es : List Ed} {d0 d : List Int} {b : Int → Int}
theorem Pot.way (h : Pot F n es d0 b) {v L : Int} (w : Way F n es d0 v L) : b v ≤ L := by
  induction w with
  | start v h0 hn hf => exact h.start v h0 hn hf
  | step e L he w ih => have := h.step e he; omega
/-- What the numbers are: far, or the length of a way; nothing above the first ones. -/
structure Inv (F : Int) (n : Nat) (es : List Ed) (d0 d : List Int) : Prop where
  len : d.length = n
  le : ∀ v : Int, 0 ≤ v → v < n → val d v ≤ val d0 v
  way : ∀ v : Int, 0 ≤ v → v < n → val d v = F ∨ (val d v < F ∧ Way F n es d0 v (val d v))
theorem Inv.first (hl : d0.length = n) (hb : Bnd F B d0) (hB : B < F) : Inv F n es d0 d0 :=
  ⟨hl, fun v _ _ => Int.le_refl _, fun v h0 hn => by
    rcases hb.at h0 (by omega) with h | h
    · exact .inl h
    · exact .inr ⟨by omega, .start v h0 hn (by omega)⟩⟩
/-- One edge. -/
structure One (F B W : Int) (n : Nat) (e : Ed) (d d' : List Int) : Prop where
  len : d'.length = d.length
  le : ∀ v : Int, 0 ≤ v → v < n → val d' v ≤ val d v
  used : val d e.u < F → val d' e.v ≤ val d e.u + e.w
  bnd : Bnd F (B + W) d'
theorem relax1_spec (s : List Int × Bool) (e : Ed) (hs : s.1.length = n) (he : EdOK n W e) (hb : Bnd F B s.1) (hB : B + W < F) (hW : 0 ≤ W) :
    One F B W n e s.1 (relax1 F s e).1 := by
  obtain ⟨h1, h2, h3, h4, h5, h6⟩ := he
  unfold relax1
  split
  · rename_i hc
    have hu := hb.at h1 (by omega)
    have hc1 : val s.1 e.u < F := hc.1
    have hc2 : val s.1 e.u + e.w < val s.1 e.v := hc.2
    change One F B W n e s.1 (s.1.set e.v.toNat (val s.1 e.u + e.w))
    refine ⟨by simp, fun v h0 hn => ?_, fun _ => ?_, fun x hx => ?_⟩
    · rw [val_set h3 h0 (by omega)]
      split
      · rename_i h; subst h; omega
      · exact Int.le_refl _
    · rw [val_set h3 h3 (by omega), if_pos rfl]; exact Int.le_refl _
    · rcases List.mem_or_eq_of_mem_set hx with h | h
      · rcases hb x h with h | h
        · exact .inl h
        · exact .inr (by omega)
      · subst h
        refine .inr ?_
        rcases hu with h | h <;> omega
  · rename_i hc
    refine ⟨rfl, fun v _ _ => Int.le_refl _, fun hf => ?_, hb.mono (by omega)⟩
    rcases Classical.em (val s.1 e.v ≤ val s.1 e.u + e.w) with h | h
    · exact h
    · exact absurd ⟨hf, by show val s.1 e.u + e.w < val s.1 e.v; omega⟩ hc
theorem relax1_inv {s : List Int × Bool} {e : Ed} (hs : Inv F n es d0 s.1) (he : EdOK n W e) (hm : e ∈ es) (hb : Bnd F B s.1) (hB : B + W < F) (hW : 0 ≤ W) : Inv F n es d0 (relax1 F s e).1 := by
  have sp := relax1_spec s e hs.len he hb hB hW
  refine ⟨sp.len.trans hs.len, fun v h0 hn => Int.le_trans (sp.le v h0 hn) (hs.le v h0 hn), fun v h0 hn => ?_⟩
  obtain ⟨h1, h2, h3, h4, h5, h6⟩ := he
  have hl := hs.len
  unfold relax1 at sp ⊢
  split
  · rename_i hc
    have hc1 : val s.1 e.u < F := hc.1
    have hc2 : val s.1 e.u + e.w < val s.1 e.v := hc.2
    change val (s.1.set e.v.toNat (val s.1 e.u + e.w)) v = F ∨ val (s.1.set e.v.toNat (val s.1 e.u + e.w)) v < F ∧ Way F n es d0 v (val (s.1.set e.v.toNat (val s.1 e.u + e.w)) v)
    rw [val_set h3 h0 (by omega)]
    split
    · rename_i h; subst h
      refine .inr ⟨?_, ?_⟩
      · rcases hs.way e.v h3 h4 with q | q <;> omega
      · rcases hs.way e.u h1 h2 with q | q
        · omega
        · exact .step e _ hm q.2
    · exact hs.way v h0 hn
  · exact hs.way v h0 hn
theorem relax1_flag (s : List Int × Bool) (e : Ed) : (relax1 F s e).2 = true → relax1 F s e = s ∧ s.2 = true := by
  unfold relax1
  split
  · intro h; cases h
  · intro h; exact ⟨rfl, h⟩
/-- Some edges, one after another. -/
theorem fold_spec (hW : 0 ≤ W) : ∀ (l : List Ed) (s : List Int × Bool) (B : Int), 0 ≤ B → (∀ e ∈ l, EdOK n W e) → (∀ e ∈ l, e ∈ es) → Inv F n es d0 s.1 → Bnd F B s.1 → B + l.length * W < F →
    Inv F n es d0 (l.foldl (relax1 F) s).1 ∧ Bnd F (B + l.length * W) (l.foldl (relax1 F) s).1 ∧ (∀ v : Int, 0 ≤ v → v < n → val (l.foldl (relax1 F) s).1 v ≤ val s.1 v) ∧
    (∀ e ∈ l, val s.1 e.u < F → val (l.foldl (relax1 F) s).1 e.v ≤ val s.1 e.u + e.w) ∧ ((l.foldl (relax1 F) s).2 = true → l.foldl (relax1 F) s = s ∧ s.2 = true)
  | [], s, B, _, _, _, hi, hb, _ => by
    refine ⟨hi, hb.mono (by simp), fun v _ _ => Int.le_refl _, by simp, fun h => ⟨rfl, h⟩⟩
  | e :: r, s, B, hB0, hok, hes, hi, hb, hB => by
    have hmul : ((e :: r).length : Int) * W = r.length * W + W := by rw [List.length_cons]; push_cast; rw [Int.add_mul, Int.one_mul]
    have hrW : 0 ≤ (r.length : Int) * W := Int.mul_nonneg (by omega) hW
    rw [hmul] at hB ⊢
    have he := hok e (by simp)
    have sp := relax1_spec s e hi.len he hb (by omega) hW
    have iv := relax1_inv hi he (hes e (by simp)) hb (by omega) hW
    obtain ⟨a1, a2, a3, a4, a5⟩ := fold_spec hW r (relax1 F s e) (B + W) (by omega) (fun x hx => hok x (by simp [hx])) (fun x hx => hes x (by simp [hx])) iv sp.bnd (by omega)
    rw [List.foldl_cons]
    refine ⟨a1, a2.mono (by omega), fun v h0 hn => Int.le_trans (a3 v h0 hn) (sp.le v h0 hn), fun x hx hf => ?_, fun h => ?_⟩
    · rcases List.mem_cons.1 hx with rfl | hx
      · exact Int.le_trans (a3 _ he.2.2.1 he.2.2.2.1) (sp.used hf)
      · have hxo := hok x (by simp [hx])
        have := sp.le x.u hxo.1 hxo.2.1
        have := a4 x hx (by omega)
        omega
    · obtain ⟨q1, q2⟩ := a5 h
      obtain ⟨q3, q4⟩ := relax1_flag s e q2
      rw [q3] at q1
      exact ⟨by rw [q3]; exact q1, q4⟩
/-! ### Rounds -/
structure Rnd (F B W : Int) (n : Nat) (es : List Ed) (d0 d : List Int) : Prop where
  inv : Inv F n es d0 d
  bnd : Bnd F B d
theorem round_spec (hW : 0 ≤ W) (hB0 : 0 ≤ B) (hok : ∀ e ∈ es, EdOK n W e) (h : Rnd F B W n es d0 d) (hB : B + es.length * W < F) :
    Rnd F (B + es.length * W) W n es d0 (round F es d).1 ∧ (∀ v : Int, 0 ≤ v → v < n → val (round F es d).1 v ≤ val d v) ∧
    (∀ e ∈ es, val d e.u < F → val (round F es d).1 e.v ≤ val d e.u + e.w) ∧ ((round F es d).2 = true → (round F es d).1 = d) := by
  obtain ⟨a1, a2, a3, a4, a5⟩ := fold_spec (es := es) (d0 := d0) hW es (d, true) B hB0 hok (fun _ h => h) h.inv h.bnd hB
  exact ⟨⟨a1, a2⟩, a3, a4, fun q => congrArg Prod.fst (a5 q).1⟩
/-- No way leads on. -/
def Calm (F : Int) (es : List Ed) (d : List Int) : Prop := ∀ e ∈ es, val d e.u < F → val d e.v ≤ val d e.u + e.w
theorem calm_fold : ∀ (l : List Ed), Calm F l d → ∀ b, l.foldl (relax1 F) (d, b) = (d, b)
  | [], _, _ => rfl
  | e :: r, h, b => by
    rw [List.foldl_cons]
    have : relax1 F (d, b) e = (d, b) := by
      unfold relax1
      rw [if_neg]
      rintro ⟨h1, h2⟩
      have h1 : val d e.u < F := h1
      have h2 : val d e.u + e.w < val d e.v := h2
      have := h e (by simp) h1
      omega
    rw [this]
    exact calm_fold r (fun x hx => h x (by simp [hx])) b
theorem calm_round (h : Calm F es d) : round F es d = (d, true) := calm_fold es h true
/-- No shorter way. -/
def Done (F : Int) (n : Nat) (es : List Ed) (d0 d : List Int) (v : Int) : Prop := ∀ L, Way F n es d0 v L → val d v ≤ L ∧ val d v < F
theorem Done.le {d' : List Int} {v : Int} (h : Done F n es d0 d v) (hle : val d' v ≤ val d v) : Done F n es d0 d' v := fun L w => by have := h L w; omega
theorem way_node (hok : ∀ e ∈ es, EdOK n W e) {v L : Int} (w : Way F n es d0 v L) : 0 ≤ v ∧ v < n := by
  induction w with
  | start v h0 hn hf => exact ⟨h0, hn⟩
  | step e L he w ih => exact ⟨(hok e he).2.2.1, (hok e he).2.2.2.1⟩
theorem way_min (hp : Pot F n es d0 b) {v L : Int} (w : Way F n es d0 v L) : ∃ M, Way F n es d0 v M ∧ M ≤ L ∧ ∀ L', Way F n es d0 v L' → M ≤ L' := by
  have key : ∀ (k : Nat) (L : Int), Way F n es d0 v L → (L - b v).toNat = k → ∃ M, Way F n es d0 v M ∧ M ≤ L ∧ ∀ L', Way F n es d0 v L' → M ≤ L' := by
    intro k
    induction k using Nat.strongRecOn with
    | _ k ih =>
      intro L w hk
      rcases Classical.em (∃ L', Way F n es d0 v L' ∧ L' < L) with ⟨L', w', hl⟩ | hno
      · have h1 := hp.way w
        have h2 := hp.way w'
        obtain ⟨M, m1, m2, m3⟩ := ih (L' - b v).toNat (by omega) L' w' rfl
        exact ⟨M, m1, by omega, m3⟩
      · exact ⟨L, w, Int.le_refl _, fun L' w' => by
          rcases Int.lt_or_le L' L with h | h
          · exact absurd ⟨L', w', h⟩ hno
          · exact h⟩
  exact key _ L w rfl
theorem fin_step (hW : 0 ≤ W) (hB0 : 0 ≤ B) (hok : ∀ e ∈ es, EdOK n W e) (h : Rnd F B W n es d0 d) (hB : B + es.length * W < F) (hBW : B + W < F) {v L : Int} (w : Way F n es d0 v L) (hmin : ∀ L', Way F n es d0 v L' → L ≤ L') :
    ¬ Done F n es d0 d v → ∃ x : Int, 0 ≤ x ∧ x < n ∧ ¬ Done F n es d0 d x ∧ Done F n es d0 (round F es d).1 x := by
  obtain ⟨r1, r2, r3, _⟩ := round_spec hW hB0 hok h hB
  induction w with
  | start v h0 hn hf =>
    intro hnf
    refine absurd (fun L' w' => ?_) hnf
    have := h.inv.le v h0 hn
    have := hmin L' w'
    omega
  | step e L he w ih =>
    intro hnf
    have hmu : ∀ L', Way F n es d0 e.u L' → L ≤ L' := fun L' w' => by
      have := hmin _ (.step e L' he w')
      omega
    rcases Classical.em (Done F n es d0 d e.u) with hfu | hfu
    · refine ⟨e.v, (hok e he).2.2.1, (hok e he).2.2.2.1, hnf, fun L' w' => ?_⟩
      obtain ⟨q1, q2⟩ := hfu L w
      have q3 := r3 e he q2
      have q4 := hmin L' w'
      refine ⟨by omega, ?_⟩
      have q5 := h.bnd.at (hok e he).1 (by have := h.inv.len; have := (hok e he).2.1; omega)
      have := (hok e he).2.2.2.2.2
      omega
    · exact ih hmu hfu
open Classical in
theorem countP_lt {α : Type} {p q : α → Prop} : ∀ {l : List α}, (∀ x ∈ l, p x → q x) → (∃ x ∈ l, q x ∧ ¬ p x) → l.countP (fun x => decide (p x)) < l.countP (fun x => decide (q x))
  | [], _, h => by obtain ⟨x, hx, _⟩ := h; cases hx
  | y :: r, hpq, h => by
    rw [List.countP_cons, List.countP_cons]
    have hle : r.countP (fun x => decide (p x)) ≤ r.countP (fun x => decide (q x)) := List.countP_mono_left fun x hx hp => by simpa using hpq x (by simp [hx]) (by simpa using hp)
    obtain ⟨x, hx, hq, hnp⟩ := h
    rcases List.mem_cons.1 hx with rfl | hx
    · simp [hq, hnp]; omega
    · have := countP_lt (fun x hx => hpq x (by simp [hx])) ⟨x, hx, hq, hnp⟩
      by_cases h1 : p y
      · simp [h1, hpq y (by simp) h1]; exact this
      · by_cases h2 : q y <;> simp [h1, h2] <;> omega
def Opn (F : Int) (n : Nat) (es : List Ed) (d0 d : List Int) (k : Nat) : Prop := ¬ Done F n es d0 d (k : Int)
open Classical in
/-- How many nodes have shorter ways. -/
noncomputable def open_ (F : Int) (n : Nat) (es : List Ed) (d0 d : List Int) : Nat := (List.range n).countP fun (k : Nat) => decide (Opn F n es d0 d k)
theorem open_le : open_ F n es d0 d ≤ n := by
  unfold open_
  exact Nat.le_trans List.countP_le_length (by simp)
open Classical in
theorem fin_all (h : open_ F n es d0 d = 0) {v : Int} (h0 : 0 ≤ v) (hn : v < n) : Done F n es d0 d v := by
  unfold open_ at h
  rw [List.countP_eq_zero] at h
  have := h v.toNat (by simp; omega)
  have this : Done F n es d0 d (v.toNat : Int) := Classical.byContradiction fun q => this (decide_eq_true q)
  rwa [Int.toNat_of_nonneg h0] at this
open Classical in
theorem open_round (hW : 0 ≤ W) (hB0 : 0 ≤ B) (hok : ∀ e ∈ es, EdOK n W e) (hp : Pot F n es d0 b) (h : Rnd F B W n es d0 d) (hB : B + es.length * W < F) (hBW : B + W < F) :
    open_ F n es d0 (round F es d).1 ≤ open_ F n es d0 d - 1 := by
  obtain ⟨r1, r2, r3, _⟩ := round_spec hW hB0 hok h hB
  rcases Nat.eq_zero_or_pos (open_ F n es d0 d) with hz | hz
  · have : open_ F n es d0 (round F es d).1 = 0 := by
      unfold open_
      rw [List.countP_eq_zero]
      intro k hk
      have hk : k < n := by simpa using hk
      exact fun q => (of_decide_eq_true q) ((fin_all hz (v := (k : Int)) (by omega) (by omega)).le (r2 _ (by omega) (by omega)))
    omega
  · have hex : ∃ k ∈ List.range n, Opn F n es d0 d k := by
      unfold open_ at hz
      obtain ⟨k, h1, h2⟩ := List.countP_pos_iff.1 hz
      exact ⟨k, h1, of_decide_eq_true h2⟩
    obtain ⟨k, hk, hnf⟩ := hex
    have hw : ∃ L, Way F n es d0 (k : Int) L := by
      rcases Classical.em (∃ L, Way F n es d0 (k : Int) L) with h | h
      · exact h
      · exact absurd (fun L w => absurd ⟨L, w⟩ h) hnf
    obtain ⟨L, w⟩ := hw
    obtain ⟨M, m1, _, m3⟩ := way_min hp w
    obtain ⟨x, x0, xn, x1, x2⟩ := fin_step hW hB0 hok h hB hBW m1 m3 hnf
    have := countP_lt (p := Opn F n es d0 (round F es d).1) (q := Opn F n es d0 d) (l := List.range n)
      (fun k hk hk1 hk2 => hk1 (hk2.le (r2 _ (by omega) (Int.ofNat_lt.2 (List.mem_range.1 hk))))) ⟨x.toNat, by simp; omega, by unfold Opn; rw [Int.toNat_of_nonneg x0]; exact x1, by unfold Opn; rw [Int.toNat_of_nonneg x0]; exact fun h => h x2⟩
    unfold open_
    omega
theorem open_calm (hok : ∀ e ∈ es, EdOK n W e) (h : Inv F n es d0 d) (hz : open_ F n es d0 d = 0) : Calm F es d := fun e he hf => by
  have ho := hok e he
  rcases h.way e.u ho.1 ho.2.1 with q | q
  · omega
  · exact ((fin_all hz ho.2.2.1 ho.2.2.2.1) _ (.step e _ he q.2)).1
/-- Rounds that are all done. -/
def iter (F : Int) (es : List Ed) : Nat → List Int → List Int
  | 0, d => d
  | k + 1, d => iter F es k (round F es d).1
open Classical in
theorem relaxN_spec (hW : 0 ≤ W) (hok : ∀ e ∈ es, EdOK n W e) : ∀ (k : Nat) (B : Int) (d : List Int), 0 ≤ B → Rnd F B W n es d0 d → B + k * (es.length * W) + W < F →
    (∃ B', Rnd F B' W n es d0 (relaxN F es k d).1 ∧ B' ≤ B + k * (es.length * W)) ∧ ((relaxN F es k d).2 = true → Calm F es (relaxN F es k d).1) ∧ (∀ b, Pot F n es d0 b → open_ F n es d0 d < k → (relaxN F es k d).2 = true ∧ open_ F n es d0 (relaxN F es k d).1 = 0)
  | 0, B, d, hB0, h, _ => by
    refine ⟨⟨B, h, ?_⟩, ?_, ?_⟩
    · simp
    · intro q; cases q
    · intro _ _ q; omega
  | k + 1, B, d, hB0, h, hB => by
    have hmul : ((k + 1 : Nat) : Int) * (es.length * W) = k * (es.length * W) + es.length * W := by push_cast; rw [Int.add_mul, Int.one_mul]
    have hn1 : 0 ≤ (es.length : Int) * W := Int.mul_nonneg (by omega) hW
    have hn2 : 0 ≤ (k : Int) * (es.length * W) := Int.mul_nonneg (by omega) hn1
    rw [hmul] at hB
    obtain ⟨r1, r2, r3, r4⟩ := round_spec hW hB0 hok h (by omega)
    unfold relaxN
    split
    · rename_i hc
      have hd := r4 hc
      have hcalm : Calm F es d := fun e he hf => by have := r3 e he hf; rwa [hd] at this
      rw [hd]
      refine ⟨⟨B, h, by rw [hmul]; omega⟩, fun _ => hcalm, fun b hp ho => ⟨rfl, ?_⟩⟩
      -- a calm list has no shorter ways
      unfold open_
      rw [List.countP_eq_zero]
      intro x hx
      refine fun q => (of_decide_eq_true q) fun L w => ?_
      show val d x ≤ L ∧ val d x < F
      have : ∀ {v L : Int}, Way F n es d0 v L → val d v ≤ L ∧ val d v < F := by
        intro v L w
        induction w with
        | start v h0 hn hf => have := h.inv.le v h0 hn; omega
        | step e L he w ih =>
          have h1 := hcalm e he ih.2
          have h2 := h.bnd.at (hok e he).1 (by have := h.inv.len; have := (hok e he).2.1; omega)
          have := (hok e he).2.2.2.2.2
          refine ⟨by omega, ?_⟩
          rcases h2 with h2 | h2 <;> omega
      exact this w
    · rename_i hc
      obtain ⟨⟨B', i1, i2⟩, i3, i4⟩ := relaxN_spec hW hok k (B + es.length * W) (round F es d).1 (by omega) r1 (by omega)
      refine ⟨⟨B', i1, by rw [hmul]; omega⟩, i3, fun b hp ho => i4 b hp ?_⟩
      have := open_round hW hB0 hok hp h (by omega) (by omega)
      rcases Nat.eq_zero_or_pos (open_ F n es d0 d) with hz | hz
      · have hcalm := open_calm hok h.inv hz
        rw [calm_round hcalm] at hc
        exact absurd rfl hc
      · omega
theorem iter_spec (hW : 0 ≤ W) (hok : ∀ e ∈ es, EdOK n W e) (hp : Pot F n es d0 b) : ∀ (k : Nat) (B : Int) (d : List Int), 0 ≤ B → Rnd F B W n es d0 d → B + k * (es.length * W) + W < F →
    open_ F n es d0 d ≤ k → Inv F n es d0 (iter F es k d) ∧ open_ F n es d0 (iter F es k d) = 0
  | 0, B, d, hB0, h, _, ho => ⟨h.inv, by unfold iter; omega⟩
  | k + 1, B, d, hB0, h, hB, ho => by
    have hmul : ((k + 1 : Nat) : Int) * (es.length * W) = k * (es.length * W) + es.length * W := by push_cast; rw [Int.add_mul, Int.one_mul]
    have hn1 : 0 ≤ (es.length : Int) * W := Int.mul_nonneg (by omega) hW
    have hn2 : 0 ≤ (k : Int) * (es.length * W) := Int.mul_nonneg (by omega) hn1
    rw [hmul] at hB
    obtain ⟨r1, r2, r3, r4⟩ := round_spec hW hB0 hok h (by omega)
    have := open_round hW hB0 hok hp h (by omega) (by omega)
    exact iter_spec hW hok hp k (B + es.length * W) (round F es d).1 (by omega) r1 (by omega) (by omega)
end
end Bd
end Go.Proofs.Ytaglpampidlbmaa

namespace Go.Proofs.Ytaglpampidlbmaa
open Go Go.Eng
namespace Bd
/-- Times that satisfy all edges. -/
def Feas (es : List Ed) (t : Int → Int) : Prop := ∀ e ∈ es, t e.v ≤ t e.u + e.w
/-- One node leads to another one. -/
inductive Conn (es : List Ed) (u : Int) : Int → Prop
  | refl : Conn es u u
  | step (e : Ed) (he : e ∈ es) (h : Conn es u e.u) : Conn es u e.v
theorem Conn.trans {es : List Ed} {u v x : Int} (h : Conn es u v) (k : Conn es v x) : Conn es u x := by
  induction k with
  | refl => exact h
  | step e he _ ih => exact .step e he ih
theorem Conn.one {es : List Ed} (e : Ed) (he : e ∈ es) : Conn es e.u e.v := .step e he .refl
theorem Conn.swap {es : List Ed} {u v : Int} (h : Conn es u v) : Conn (es.map Bd.swap) v u := by
  induction h with
  | refl => exact .refl
  | step e he _ ih => exact (Conn.one (Bd.swap e) (List.mem_map.2 ⟨e, he, rfl⟩)).trans ih
theorem Conn.way {F : Int} {n : Nat} {es : List Ed} {d0 : List Int} {u v L : Int} (h : Conn es u v) (w : Way F n es d0 u L) : ∃ M, Way F n es d0 v M := by
  induction h with
  | refl => exact ⟨L, w⟩
  | step e he _ ih => obtain ⟨M, hM⟩ := ih; exact ⟨_, .step e M he hM⟩
theorem feas_swap {es : List Ed} {t : Int → Int} (h : Feas es t) : Feas (es.map swap) (fun v => -t v) := fun e he => by
  obtain ⟨e', he', rfl⟩ := List.mem_map.1 he
  have := h e' he'
  simp only [swap]; omega
theorem feas_unswap {es : List Ed} {t : Int → Int} (h : Feas (es.map swap) t) : Feas es (fun v => -t v) := fun e he => by
  have := h (swap e) (List.mem_map.2 ⟨e, he, rfl⟩)
  simp only [swap] at this
  show -t e.v ≤ -t e.u + e.w
  omega
theorem edok_swap {n : Nat} {W : Int} {es : List Ed} (h : ∀ e ∈ es, EdOK n W e) : ∀ e ∈ es.map swap, EdOK n W e := fun e he => by
  obtain ⟨e', he', rfl⟩ := List.mem_map.1 he
  obtain ⟨a, b, c, d, f, g⟩ := h e' he'
  exact ⟨c, d, a, b, f, g⟩
/-- A list's largest number. -/
theorem upper (t : Int → Int) : ∀ n : Nat, ∃ M, ∀ v : Int, 0 ≤ v → v < n → t v ≤ M
  | 0 => ⟨0, fun v h0 h => by omega⟩
  | n + 1 => by
    obtain ⟨M, h⟩ := upper t n
    refine ⟨max M (t n), fun v h0 hn => ?_⟩
    by_cases hv : v = n
    · subst hv; omega
    · have := h v h0 (by omega); omega
/-! ### Starts -/
def zeros (n : Nat) : List Int := List.replicate n 0
def fromD (F : Int) (n : Nat) (s : Int) : List Int := (List.replicate n F).set s.toNat 0
theorem val_zeros {n : Nat} {v : Int} (h0 : 0 ≤ v) (hn : v < n) : val (zeros n) v = 0 := by
  unfold val zeros
  rw [getElem!_pos (List.replicate n (0 : Int)) v.toNat (by simp; omega)]; simp
theorem val_fromD {F : Int} {n : Nat} {s v : Int} (hs : 0 ≤ s) (hsn : s < n) (h0 : 0 ≤ v) (hn : v < n) : val (fromD F n s) v = if v = s then 0 else F := by
  unfold fromD
  rw [val_set hs h0 (by simpa using hsn)]
  split
  · rfl
  · unfold val
    rw [getElem!_pos (List.replicate n F) v.toNat (by simp; omega)]; simp
section
variable {F W : Int} {n : Nat} {es : List Ed}
structure Ready (F W : Int) (n : Nat) (es : List Ed) : Prop where
  hW : 0 ≤ W
  ok : ∀ e ∈ es, EdOK n W e
  room : ((n + 1 : Nat) : Int) * (es.length * W) + W < F
  pos : 0 < n
theorem Ready.swap (h : Ready F W n es) : Ready F W n (es.map swap) := ⟨h.hW, edok_swap h.ok, by rw [List.length_map]; exact h.room, h.pos⟩
theorem Ready.F0 (h : Ready F W n es) : 0 < F := by
  have := h.room
  have h1 : 0 ≤ (es.length : Int) * W := Int.mul_nonneg (by omega) h.hW
  have h2 : 0 ≤ ((n + 1 : Nat) : Int) * (es.length * W) := Int.mul_nonneg (by omega) h1
  have := h.hW
  omega
theorem Ready.zeros_ (h : Ready F W n es) : Rnd F 0 W n es (zeros n) (zeros n) := by
  have hb : Bnd F 0 (Bd.zeros n) := fun x hx => by
    have := List.eq_of_mem_replicate hx
    exact .inr (by omega)
  exact ⟨Inv.first (by simp [Bd.zeros]) hb h.F0, hb⟩
theorem Ready.fromD_ (h : Ready F W n es) {s : Int} (hs : 0 ≤ s) (hsn : s < n) : Rnd F 0 W n es (fromD F n s) (fromD F n s) := by
  have hb : Bnd F 0 (Bd.fromD F n s) := fun x hx => by
    rcases List.mem_or_eq_of_mem_set hx with hx | hx
    · exact .inl (List.eq_of_mem_replicate hx)
    · exact .inr (by omega)
  exact ⟨Inv.first (by simp [Bd.fromD]) hb h.F0, hb⟩
theorem Ready.open_zeros (h : Ready F W n es) : open_ F n es (Bd.zeros n) (Bd.zeros n) < n + 1 := by
  have := open_le (F := F) (n := n) (es := es) (d0 := Bd.zeros n) (d := Bd.zeros n); omega
/-- No contradiction is found just if times satisfy all. -/
theorem Ready.con (h : Ready F W n es) : (relaxN F es (n + 1) (Bd.zeros n)).2 = true ↔ ∃ t, Feas es t := by
  obtain ⟨⟨B', i1, _⟩, i2, i3⟩ := relaxN_spec h.hW h.ok (n + 1) 0 (Bd.zeros n) (Int.le_refl _) h.zeros_ (by have := h.room; omega)
  constructor
  · intro hf
    refine ⟨val (relaxN F es (n + 1) (Bd.zeros n)).1, fun e he => ?_⟩
    have ho := h.ok e he
    refine i2 hf e he ?_
    have := i1.inv.le e.u ho.1 ho.2.1
    rw [val_zeros ho.1 ho.2.1] at this
    have := h.F0
    omega
  · rintro ⟨t, ht⟩
    obtain ⟨M, hM⟩ := upper t n
    refine (i3 (fun v => t v - M) ⟨fun v h0 hn _ => ?_, fun e he => ?_⟩ h.open_zeros).1
    · rw [val_zeros h0 hn]; have := hM v h0 hn; omega
    · have := ht e he; omega
/-- The length of a shortest way from s to v is how much later v can be than s. -/
theorem Ready.far (h : Ready F W n es) {s v : Int} (hs : 0 ≤ s) (hsn : s < n) (h0 : 0 ≤ v) (hn : v < n) (hc : Conn es s v) {p : Int → Int} (hp : Feas es p) {d : List Int} (hi : Inv F n es (Bd.fromD F n s) d) (hz : open_ F n es (Bd.fromD F n s) d = 0) :
    (∀ t, Feas es t → t v - t s ≤ val d v) ∧ ∃ t, Feas es t ∧ t v - t s = val d v := by
  have ws : Way F n es (Bd.fromD F n s) s 0 := by
    have := Way.start (F := F) (n := n) (es := es) (d0 := Bd.fromD F n s) s hs hsn (by rw [val_fromD hs hsn hs hsn, if_pos rfl]; exact h.F0)
    rwa [val_fromD hs hsn hs hsn, if_pos rfl] at this
  obtain ⟨M, wv⟩ := hc.way ws
  have hfv := (fin_all hz h0 hn M wv).2
  have hwd : Way F n es (Bd.fromD F n s) v (val d v) := by
    rcases hi.way v h0 hn with q | q
    · omega
    · exact q.2
  have pot : ∀ t, Feas es t → Pot F n es (Bd.fromD F n s) (fun x => t x - t s) := fun t ht => ⟨fun x x0 xn hf => by
      rw [val_fromD hs hsn x0 xn] at hf ⊢
      split
      · rename_i e; subst e; omega
      · rename_i e; rw [if_neg e] at hf; omega, fun e he => by have := ht e he; omega⟩
  refine ⟨fun t ht => (pot t ht).way hwd, ?_⟩
  -- the shortest lengths themselves are times, with others where no way leads
  have hds : val d s = 0 := by
    have h1 := (fin_all hz hs hsn 0 ws).1
    have h2 : Way F n es (Bd.fromD F n s) s (val d s) := by
      rcases hi.way s hs hsn with q | q
      · have := (fin_all hz hs hsn 0 ws).2; omega
      · exact q.2
    have := (pot p hp).way h2
    omega
  have calm := open_calm h.ok hi hz
  let K : Int := max (val d v - p v) (- p s)
  refine ⟨fun x => if val d x < F then min (val d x) (p x + K) else p x + K, fun e he => ?_, ?_⟩
  · have ho := h.ok e he
    have hpe := hp e he
    show (if val d e.v < F then min (val d e.v) (p e.v + K) else p e.v + K) ≤ (if val d e.u < F then min (val d e.u) (p e.u + K) else p e.u + K) + e.w
    by_cases hu : val d e.u < F
    · have hce := calm e he hu
      have hv : val d e.v < F := by
        rcases hi.way e.u ho.1 ho.2.1 with q | q
        · omega
        · exact (fin_all hz ho.2.2.1 ho.2.2.2.1 _ (.step e _ he q.2)).2
      rw [if_pos hu, if_pos hv]; omega
    · rw [if_neg hu]
      split <;> omega
  · show (if val d v < F then min (val d v) (p v + K) else p v + K) - (if val d s < F then min (val d s) (p s + K) else p s + K) = val d v
    have h1 : val d v - p v ≤ K := by simp only [K]; omega
    have h2 : - p s ≤ K := by simp only [K]; omega
    rw [if_pos hfv, if_pos (by rw [hds]; exact h.F0), hds]
    omega
theorem Ready.relaxed (h : Ready F W n es) {p : Int → Int} (hp : Feas es p) {s : Int} (hs : 0 ≤ s) (hsn : s < n) :
    Inv F n es (Bd.fromD F n s) (relaxN F es (n + 1) (Bd.fromD F n s)).1 ∧ open_ F n es (Bd.fromD F n s) (relaxN F es (n + 1) (Bd.fromD F n s)).1 = 0 := by
  obtain ⟨⟨B', i1, _⟩, i2, i3⟩ := relaxN_spec h.hW h.ok (n + 1) 0 (Bd.fromD F n s) (Int.le_refl _) (h.fromD_ hs hsn) (by have := h.room; omega)
  refine ⟨i1.inv, (i3 (fun x => p x - p s) ⟨fun x x0 xn hf => ?_, fun e he => by have := hp e he; omega⟩ (by have := open_le (F := F) (n := n) (es := es) (d0 := Bd.fromD F n s) (d := Bd.fromD F n s); omega)).2⟩
  rw [val_fromD hs hsn x0 xn] at hf ⊢
  split
  · rename_i e; subst e; omega
  · rename_i e; rw [if_neg e] at hf; omega
theorem Ready.iterated (h : Ready F W n es) {p : Int → Int} (hp : Feas es p) {s : Int} (hs : 0 ≤ s) (hsn : s < n) :
    Inv F n es (Bd.fromD F n s) (iter F es n (Bd.fromD F n s)) ∧ open_ F n es (Bd.fromD F n s) (iter F es n (Bd.fromD F n s)) = 0 := by
  have hr := h.room
  have h1 : 0 ≤ (es.length : Int) * W := Int.mul_nonneg (by omega) h.hW
  have hmul : ((n + 1 : Nat) : Int) * (es.length * W) = n * (es.length * W) + es.length * W := by push_cast; rw [Int.add_mul, Int.one_mul]
  refine iter_spec h.hW h.ok (b := fun x => p x - p s) ⟨fun x x0 xn hf => ?_, fun e he => by have := hp e he; omega⟩ n 0 (Bd.fromD F n s) (Int.le_refl _) (h.fromD_ hs hsn) (by omega) open_le
  rw [val_fromD hs hsn x0 xn] at hf ⊢
  split
  · rename_i e; subst e; omega
  · rename_i e; rw [if_neg e] at hf; omega
end
/-! ### What snapshots and drifts say of the times of readings -/
structure Sat (d : List Ck.Dom) (l : List Ck.Snap) (S : Key → Prop) (T : Key → Int) : Prop where
  zero : ∀ p, S (0, p) → T (0, p) = p
  pair : ∀ x ∈ d, x.id ≠ 0 → ∀ p q, S (x.id, p) → S (x.id, q) → q < p → (Iv.stretchF (p - q) x.ppm).1.1 ≤ T (x.id, p) - T (x.id, q) ∧ T (x.id, p) - T (x.id, q) ≤ (Iv.stretchF (p - q) x.ppm).1.2
  snap : ∀ s ∈ l, T (s.b, s.lo) ≤ T (s.a, s.ata) ∧ T (s.a, s.ata) ≤ T (s.b, s.hi)
/-- A graph that says the same: f gives a reading's node; the node 0 is the time 0. -/
structure Rep (d : List Ck.Dom) (l : List Ck.Snap) (S : Key → Prop) (f : Key → Int) (n : Nat) (es : List Ed) : Prop where
  rng : ∀ k, S k → 0 ≤ f k ∧ f k < n
  make : ∀ T, Sat d l S T → ∃ t, t 0 = 0 ∧ (∀ k, S k → t (f k) = T k) ∧ Feas es t
  read : ∀ t, Feas es t → Sat d l S (fun k => t (f k) - t 0)
  link : ∀ k, S k → Ck.Reach l k.1 → Conn es 0 (f k) ∧ Conn es (f k) 0
/-- The greatest and the least time of a reading. -/
def IsMax (d : List Ck.Dom) (l : List Ck.Snap) (S : Key → Prop) (k : Key) (m : Int) : Prop := (∀ T, Sat d l S T → T k ≤ m) ∧ ∃ T, Sat d l S T ∧ T k = m
def IsMin (d : List Ck.Dom) (l : List Ck.Snap) (S : Key → Prop) (k : Key) (m : Int) : Prop := (∀ T, Sat d l S T → m ≤ T k) ∧ ∃ T, Sat d l S T ∧ T k = m
section
variable {F W : Int} {n : Nat} {es : List Ed} {d : List Ck.Dom} {l : List Ck.Snap} {S : Key → Prop} {f : Key → Int}
theorem Rep.con (h : Rep d l S f n es) (r : Ready F W n es) : (relaxN F es (n + 1) (zeros n)).2 = true ↔ ∃ T, Sat d l S T := by
  rw [r.con]
  constructor
  · rintro ⟨t, ht⟩; exact ⟨_, h.read t ht⟩
  · rintro ⟨T, hT⟩; obtain ⟨t, _, _, ht⟩ := h.make T hT; exact ⟨t, ht⟩
theorem Rep.max (h : Rep d l S f n es) (r : Ready F W n es) {k : Key} (hk : S k) (hr : Ck.Reach l k.1) (hT : ∃ T, Sat d l S T) {dd : List Int} (hi : Inv F n es (fromD F n 0) dd) (hz : open_ F n es (fromD F n 0) dd = 0) : IsMax d l S k (val dd (f k)) := by
  obtain ⟨T0, hT0⟩ := hT
  obtain ⟨p, _, _, hp⟩ := h.make T0 hT0
  have rg := h.rng k hk
  obtain ⟨h1, t, h2, h3⟩ := r.far (Int.le_refl 0) (by have := r.pos; omega) rg.1 rg.2 (h.link k hk hr).1 hp hi hz
  refine ⟨fun T hT => ?_, _, h.read t h2, h3⟩
  obtain ⟨t', e0, ek, ht'⟩ := h.make T hT
  have := h1 t' ht'
  rw [e0, ek k hk] at this
  omega
theorem Rep.min (h : Rep d l S f n es) (r : Ready F W n es) {k : Key} (hk : S k) (hr : Ck.Reach l k.1) (hT : ∃ T, Sat d l S T) {dd : List Int} (hi : Inv F n (es.map swap) (fromD F n 0) dd) (hz : open_ F n (es.map swap) (fromD F n 0) dd = 0) : IsMin d l S k (-val dd (f k)) := by
  obtain ⟨T0, hT0⟩ := hT
  obtain ⟨p, _, _, hp⟩ := h.make T0 hT0
  have rg := h.rng k hk
  obtain ⟨h1, t, h2, h3⟩ := r.swap.far (Int.le_refl 0) (by have := r.pos; omega) rg.1 rg.2 (h.link k hk hr).2.swap (feas_swap hp) hi hz
  refine ⟨fun T hT => ?_, _, h.read _ (feas_unswap h2), ?_⟩
  · obtain ⟨t', e0, ek, ht'⟩ := h.make T hT
    have := h1 _ (feas_swap ht')
    simp only [e0, ek k hk] at this
    omega
  · show -t (f k) - -t 0 = -val dd (f k)
    omega
theorem Rep.min' (h : Rep d l S f n es) (r : Ready F W n es) {k : Key} (hk : S k) (hr : Ck.Reach l k.1) (hT : ∃ T, Sat d l S T) {dd : List Int} (hi : Inv F n es (fromD F n (f k)) dd) (hz : open_ F n es (fromD F n (f k)) dd = 0) : IsMin d l S k (-val dd 0) := by
  obtain ⟨T0, hT0⟩ := hT
  obtain ⟨p, _, _, hp⟩ := h.make T0 hT0
  have rg := h.rng k hk
  obtain ⟨h1, t, h2, h3⟩ := r.far rg.1 rg.2 (Int.le_refl 0) (by have := r.pos; omega) (h.link k hk hr).2 hp hi hz
  refine ⟨fun T hT => ?_, _, h.read t h2, ?_⟩
  · obtain ⟨t', e0, ek, ht'⟩ := h.make T hT
    have := h1 t' ht'
    rw [e0, ek k hk] at this
    omega
  · show t (f k) - t 0 = -val dd 0
    omega
theorem IsMax.unique {k : Key} {a b : Int} (h : IsMax d l S k a) (h' : IsMax d l S k b) : a = b := by
  obtain ⟨T, hT, e⟩ := h.2
  obtain ⟨T', hT', e'⟩ := h'.2
  have := h.1 T' hT'
  have := h'.1 T hT
  omega
theorem IsMin.unique {k : Key} {a b : Int} (h : IsMin d l S k a) (h' : IsMin d l S k b) : a = b := by
  obtain ⟨T, hT, e⟩ := h.2
  obtain ⟨T', hT', e'⟩ := h'.2
  have := h.1 T' hT'
  have := h'.1 T hT
  omega
theorem Sat.mono {d : List Ck.Dom} {l l' : List Ck.Snap} {S S' : Key → Prop} {T : Key → Int} (h : Sat d l S T) (hS : ∀ k, S' k → S k) (hl : ∀ s ∈ l', s ∈ l) : Sat d l' S' T :=
  ⟨fun p hp => h.zero p (hS _ hp), fun x hx h0 p q hp hq hlt => h.pair x hx h0 p q (hS _ hp) (hS _ hq) hlt, fun s hs => h.snap s (hl s hs)⟩
end
end Bd
end Go.Proofs.Ytaglpampidlbmaa

namespace Go.Proofs.Ytaglpampidlbmaa
open Go Go.Eng
namespace Bd
theorem links {l : List Ck.Snap} {S : Key → Prop} {f : Key → Int} {es : List Ed}
    (hz : ∀ p, S (0, p) → Conn es 0 (f (0, p)) ∧ Conn es (f (0, p)) 0)
    (hp : ∀ i p q, i ≠ 0 → S (i, p) → S (i, q) → Conn es (f (i, p)) (f (i, q)))
    (hs : ∀ s ∈ l, S (s.a, s.ata) ∧ S (s.b, s.lo) ∧ S (s.b, s.hi) ∧ Conn es (f (s.a, s.ata)) (f (s.b, s.lo)) ∧ Conn es (f (s.b, s.hi)) (f (s.a, s.ata)))
    {i : Int} (h : Ck.Reach l i) : ∀ p, S (i, p) → Conn es 0 (f (i, p)) ∧ Conn es (f (i, p)) 0 := by
  induction h with
  | zero => exact hz
  | @fwd s hx _ ih =>
    obtain ⟨s1, s2, s3, c1, c2⟩ := hs _ hx
    obtain ⟨a1, a2⟩ := ih _ s1
    intro p hp'
    by_cases h0 : s.b = 0
    · rw [h0] at hp' ⊢; exact hz p hp'
    · exact ⟨(a1.trans c1).trans (hp _ _ _ h0 s2 hp'), (hp _ _ _ h0 hp' s3).trans (c2.trans a2)⟩
  | @bwd s hx _ ih =>
    obtain ⟨s1, s2, s3, c1, c2⟩ := hs _ hx
    obtain ⟨a1, _⟩ := ih _ s3
    obtain ⟨_, a2⟩ := ih _ s2
    intro p hp'
    by_cases h0 : s.a = 0
    · rw [h0] at hp' ⊢; exact hz p hp'
    · exact ⟨(a1.trans c2).trans (hp _ _ _ h0 s1 hp'), (hp _ _ _ h0 hp' s1).trans (c1.trans a2)⟩
/-! ### What a check that passes says -/
theorem bang_of {α : Type} [Inhabited α] {d : List α} {x : α} (h : x ∈ d) : ∃ i, i < d.length ∧ d[i]! = x := by
  obtain ⟨i, hi, rfl⟩ := List.mem_iff_getElem.1 h
  exact ⟨i, hi, getElem!_pos d i hi⟩
theorem bad_no {d : List Ck.Dom} : ∀ (r : List Ck.Dom) (k : Nat), Ck.doms d r k = 0 → ∀ x ∈ r, Ck.badDom x = false
  | [], _, _, x, hx => by cases hx
  | y :: r, k, h, x, hx => by
    simp only [Ck.doms] at h
    split at h
    · cases h
    · rename_i hb
      split at h
      · cases h
      · rcases List.mem_cons.1 hx with rfl | hx
        · simpa using hb
        · exact bad_no r (k + 1) h x hx
structure Good (d : List Ck.Dom) (l : List Ck.Snap) : Prop where
  few : d.length ≤ 8
  zero : ∃ x ∈ d, x.id = 0
  still : ∀ x ∈ d, x.id = 0 → x.ppm = 0
  one : ∀ x ∈ d, ∀ y ∈ d, x.id = y.id → x = y
  nd : (d.map (·.id)).Nodup
  ppm : ∀ x ∈ d, 0 ≤ x.ppm ∧ x.ppm ≤ 10000
  snap : ∀ s ∈ l, (∃ x ∈ d, x.id = s.a) ∧ (∃ x ∈ d, x.id = s.b) ∧ (0 ≤ s.ata ∧ s.ata ≤ 1000000000000) ∧ (0 ≤ s.lo ∧ s.lo ≤ 1000000000000) ∧ (0 ≤ s.hi ∧ s.hi ≤ 1000000000000)
theorem idx_nodup {d : List Ck.Dom} (h : ∀ i, i < d.length → ¬ 0 ≤ Ck.idx (d.take i) d[i]!.id 0) : (d.map (·.id)).Nodup := by
  rw [List.nodup_iff_pairwise_ne, List.pairwise_map, List.pairwise_iff_getElem]
  intro i j hi hj hlt e
  refine h j hj (Ck.idx_none _ _ _ ⟨d[i], ?_, ?_⟩)
  · rw [List.mem_iff_getElem]
    exact ⟨i, by rw [List.length_take]; omega, by rw [List.getElem_take]⟩
  · rw [getElem!_pos d j hj]; exact e
theorem good_of {d : List Ck.Dom} {l : List Ck.Snap} (h : Ck.checkF d l = 0) : Good d l := by
  obtain ⟨h1, h2, h3, h4, h5, h6⟩ := Ck.check_ok h
  have hz : d[0]!.id = 0 ∧ d[0]!.ppm = 0 := by
    unfold Ck.checkF at h
    rw [if_neg h1, if_neg (by omega)] at h
    split at h
    · rename_i hc
      simpa using hc
    · cases h
  have hnd := idx_nodup fun i hi => Ck.doms_zero 0 (Nat.zero_le _) (by rw [List.drop_zero]; exact h5) i (Nat.zero_le _) hi
  have one : ∀ x ∈ d, ∀ y ∈ d, x.id = y.id → x = y := fun x hx y hy e => by
    obtain ⟨i, hi, rfl⟩ := List.mem_iff_getElem.1 hx
    obtain ⟨j, hj, rfl⟩ := List.mem_iff_getElem.1 hy
    have := (List.getElem_inj (xs := d.map (·.id)) (h₀ := by simpa using hi) (h₁ := by simpa using hj) hnd).1 (by simpa using e)
    subst this; rfl
  have m0 : d[0]! ∈ d := bang_mem (by omega)
  refine ⟨h2, ⟨_, m0, hz.1⟩, fun x hx e => ?_, one, hnd, fun x hx => ?_, fun s hs => ?_⟩
  · rw [one x hx _ m0 (by rw [e, hz.1])]; exact hz.2
  · have := bad_no d 0 h5 x hx
    simp [Ck.badDom] at this
    omega
  · have hf := Ck.snaps_all h6 s hs
    obtain ⟨q1, q2⟩ := Ck.snapF_ids hf
    refine ⟨Ck.idx_some _ _ _ q1, Ck.idx_some _ _ _ q2, ?_⟩
    unfold Ck.snapF at hf
    split at hf
    · cases hf
    · split at hf
      · cases hf
      · split at hf
        · cases hf
        · rename_i hc
          simp [Ck.readB] at hc
          omega
/-! ### Nodes -/
section
variable {d : List Ck.Dom} {l : List Ck.Snap} {id at_ : Int}
theorem mem_ptsQ {x q : Int} : q ∈ ptsQ l x id at_ ↔ q ∈ Ck.pts l x ∨ (x = id ∧ q = at_) := by
  unfold ptsQ
  split
  · rename_i h
    rw [Ck.mem_put]
    constructor
    · rintro (h1 | h1)
      · exact .inr ⟨h, h1⟩
      · exact .inl h1
    · rintro (h1 | h1)
      · exact .inr h1
      · exact .inl h1.2
  · rename_i h
    constructor
    · exact .inl
    · rintro (h1 | h1)
      · exact h1
      · exact absurd h1.1 h
theorem inc_ptsQ (x : Int) : Ck.Inc (ptsQ l x id at_) := by
  unfold ptsQ
  split
  · exact Ck.inc_put _ _ (Ck.inc_puts _)
  · exact Ck.inc_puts _
theorem mem_nds {k : Key} : k ∈ nds d l id at_ ↔ (∃ x ∈ d, x.id = k.1) ∧ k.2 ∈ ptsQ l k.1 id at_ := by
  unfold nds nodX
  rw [List.mem_flatMap]
  constructor
  · rintro ⟨x, hx, hk⟩
    obtain ⟨p, hp, rfl⟩ := List.mem_map.1 hk
    exact ⟨⟨x, hx, rfl⟩, hp⟩
  · rintro ⟨⟨x, hx, e⟩, hp⟩
    exact ⟨x, hx, List.mem_map.2 ⟨k.2, by rw [e]; exact hp, by rw [e]⟩⟩
theorem mem_raw {i q : Int} : q ∈ Ck.pts l i ↔ ∃ s ∈ l, (s.a = i ∧ q = s.ata) ∨ (s.b = i ∧ (q = s.lo ∨ q = s.hi)) := by
  rw [Ck.mem_pts]
  unfold Ck.rawPts
  rw [List.mem_flatMap]
  refine exists_congr fun s => and_congr_right fun _ => ?_
  unfold Ck.ptsOf
  by_cases h1 : s.a = i <;> by_cases h2 : s.b = i <;> simp [h1, h2]
theorem pts_rng (g : Good d l) {i q : Int} (h : q ∈ Ck.pts l i) : 0 ≤ q ∧ q ≤ 1000000000000 := by
  obtain ⟨s, hs, h⟩ := mem_raw.1 h
  have := g.snap s hs
  rcases h with ⟨_, rfl⟩ | ⟨_, rfl | rfl⟩
  · exact this.2.2.1
  · exact this.2.2.2.1
  · exact this.2.2.2.2
theorem ptsQ_rng (g : Good d l) (ha : 0 ≤ at_ ∧ at_ ≤ 1000000000000) {i q : Int} (h : q ∈ ptsQ l i id at_) : 0 ≤ q ∧ q ≤ 1000000000000 := by
  rcases mem_ptsQ.1 h with h | ⟨_, rfl⟩
  · exact pts_rng g h
  · exact ha
theorem snap_nds (g : Good d l) {s : Ck.Snap} (hs : s ∈ l) : (s.a, s.ata) ∈ nds d l id at_ ∧ (s.b, s.lo) ∈ nds d l id at_ ∧ (s.b, s.hi) ∈ nds d l id at_ := by
  obtain ⟨h1, h2, _⟩ := g.snap s hs
  exact ⟨mem_nds.2 ⟨h1, mem_ptsQ.2 (.inl (mem_raw.2 ⟨s, hs, .inl ⟨rfl, rfl⟩⟩))⟩, mem_nds.2 ⟨h2, mem_ptsQ.2 (.inl (mem_raw.2 ⟨s, hs, .inr ⟨rfl, .inl rfl⟩⟩))⟩,
    mem_nds.2 ⟨h2, mem_ptsQ.2 (.inl (mem_raw.2 ⟨s, hs, .inr ⟨rfl, .inr rfl⟩⟩))⟩⟩
theorem nix_back {n : List Key} {k : Key} (h : k ∈ n) : n[(nix n k - 1).toNat]! = k := by
  unfold nix
  have hl := List.idxOf_lt_length_of_mem h
  rw [show (((n.idxOf k : Nat) : Int) + 1 - 1).toNat = n.idxOf k by omega, getElem!_pos n _ hl]
  exact List.getElem_idxOf hl
/-! ### Edges -/
theorem mem_take_inc {ps : List Int} (h : Ck.Inc ps) {i : Nat} (hi : i < ps.length) {q : Int} : q ∈ ps.take i ↔ q ∈ ps ∧ q < ps[i]! := by
  constructor
  · intro hq
    obtain ⟨j, h1, h2, rfl⟩ := Ck.mem_take_bang hq
    exact ⟨bang_mem h2, Ck.inc_at h h1 hi⟩
  · rintro ⟨hq, hlt⟩
    obtain ⟨j, hj, rfl⟩ := bang_of hq
    have hji : j < i := by
      rcases Nat.lt_or_ge j i with h1 | h1
      · exact h1
      · rcases Nat.eq_or_lt_of_le h1 with h1 | h1
        · subst h1; omega
        · have := Ck.inc_at h h1 hj; omega
    rw [List.mem_iff_getElem]
    exact ⟨j, by rw [List.length_take]; omega, by rw [List.getElem_take, getElem!_pos ps j hj]⟩
/-- The edges of a domain: of the reference's, and of any other. -/
theorem mem_eDom {n : List Key} {x : Ck.Dom} {e : Ed} : e ∈ eDom n l id at_ x ↔
    if x.id = 0 then ∃ p ∈ ptsQ l x.id id at_, e = ⟨0, nix n (x.id, p), p⟩ ∨ e = ⟨nix n (x.id, p), 0, -p⟩
    else ∃ p ∈ ptsQ l x.id id at_, ∃ q ∈ ptsQ l x.id id at_, q < p ∧ (e = ⟨nix n (x.id, q), nix n (x.id, p), (Iv.stretchF (p - q) x.ppm).1.2⟩ ∨ e = ⟨nix n (x.id, p), nix n (x.id, q), -(Iv.stretchF (p - q) x.ppm).1.1⟩) := by
  unfold eDom ePts
  have hinc := inc_ptsQ (l := l) (id := id) (at_ := at_) x.id
  rw [List.mem_flatMap]
  split
  · rename_i h0
    constructor
    · rintro ⟨i, hi, he⟩
      have hi : i < (ptsQ l x.id id at_).length := by simpa using hi
      unfold ePt at he
      rw [if_pos h0] at he
      exact ⟨_, bang_mem hi, by simpa using he⟩
    · rintro ⟨p, hp, he⟩
      obtain ⟨i, hi, rfl⟩ := bang_of hp
      refine ⟨i, by simpa using hi, ?_⟩
      unfold ePt
      rw [if_pos h0]
      simpa using he
  · rename_i h0
    constructor
    · rintro ⟨i, hi, he⟩
      have hi : i < (ptsQ l x.id id at_).length := by simpa using hi
      unfold ePt at he
      rw [if_neg h0, List.mem_flatMap] at he
      obtain ⟨q, hq, he⟩ := he
      obtain ⟨q1, q2⟩ := (mem_take_inc hinc hi).1 hq
      exact ⟨_, bang_mem hi, q, q1, q2, by simpa using he⟩
    · rintro ⟨p, hp, q, hq, hlt, he⟩
      obtain ⟨i, hi, rfl⟩ := bang_of hp
      refine ⟨i, by simpa using hi, ?_⟩
      unfold ePt
      rw [if_neg h0, List.mem_flatMap]
      exact ⟨q, (mem_take_inc hinc hi).2 ⟨hq, hlt⟩, by simpa using he⟩
theorem mem_edges {e : Ed} : e ∈ edgesF d l id at_ ↔ (∃ x ∈ d, e ∈ eDom (nds d l id at_) l id at_ x) ∨ ∃ s ∈ l, e ∈ eSnap (nds d l id at_) s := by
  unfold edgesF
  rw [List.mem_append, List.mem_flatMap, List.mem_flatMap]
theorem rep_prog (g : Good d l) : Rep d l (· ∈ nds d l id at_) (nix (nds d l id at_)) ((nds d l id at_).length + 1) (edgesF d l id at_) where
  rng k hk := by have := nix_rng hk; omega
  make T hT := by
    refine ⟨fun v => if v = 0 then 0 else T ((nds d l id at_)[(v - 1).toNat]!), if_pos rfl, ?_, ?_⟩
    · intro k hk
      have := nix_rng hk
      show (if nix (nds d l id at_) k = 0 then 0 else T ((nds d l id at_)[(nix (nds d l id at_) k - 1).toNat]!)) = T k
      rw [if_neg (by omega), nix_back hk]
    · have tk : ∀ k, k ∈ nds d l id at_ → (if nix (nds d l id at_) k = 0 then 0 else T ((nds d l id at_)[(nix (nds d l id at_) k - 1).toNat]!)) = T k := fun k hk => by
        have := nix_rng hk
        rw [if_neg (by omega), nix_back hk]
      intro e he
      rcases mem_edges.1 he with ⟨x, hx, he⟩ | ⟨s, hs, he⟩
      · rw [mem_eDom] at he
        split at he
        · rename_i h0
          obtain ⟨p, hp, he⟩ := he
          have hk : (x.id, p) ∈ nds d l id at_ := mem_nds.2 ⟨⟨x, hx, rfl⟩, hp⟩
          have hz := hT.zero p (by rw [← h0]; exact hk)
          rw [← h0] at hz
          rcases he with rfl | rfl
          · simp only [tk _ hk, if_true, hz]; omega
          · simp only [tk _ hk, if_true, hz]; omega
        · rename_i h0
          obtain ⟨p, hp, q, hq, hlt, he⟩ := he
          have hk : (x.id, p) ∈ nds d l id at_ := mem_nds.2 ⟨⟨x, hx, rfl⟩, hp⟩
          have hk' : (x.id, q) ∈ nds d l id at_ := mem_nds.2 ⟨⟨x, hx, rfl⟩, hq⟩
          have hz := hT.pair x hx h0 p q hk hk' hlt
          rcases he with rfl | rfl
          · simp only [tk _ hk, tk _ hk']; omega
          · simp only [tk _ hk, tk _ hk']; omega
      · obtain ⟨k1, k2, k3⟩ := snap_nds (id := id) (at_ := at_) g hs
        have hz := hT.snap s hs
        unfold eSnap at he
        rcases List.mem_cons.1 he with rfl | he
        · simp only [tk _ k1, tk _ k2]; omega
        · have : e = ⟨nix (nds d l id at_) (s.b, s.hi), nix (nds d l id at_) (s.a, s.ata), 0⟩ := by simpa using he
          subst this
          simp only [tk _ k1, tk _ k3]; omega
  read t ht := by
    refine ⟨fun p hp => ?_, fun x hx h0 p q hp hq hlt => ?_, fun s hs => ?_⟩
    · obtain ⟨⟨x, hx, e⟩, hp'⟩ := mem_nds.1 hp
      have e : x.id = 0 := e
      have h1 := ht _ (mem_edges.2 (.inl ⟨x, hx, mem_eDom.2 (by rw [if_pos e]; exact ⟨p, by rw [e]; exact hp', .inl rfl⟩)⟩))
      have h2 := ht _ (mem_edges.2 (.inl ⟨x, hx, mem_eDom.2 (by rw [if_pos e]; exact ⟨p, by rw [e]; exact hp', .inr rfl⟩)⟩))
      rw [e] at h1 h2
      dsimp only at h1 h2 ⊢
      omega
    · obtain ⟨_, hp'⟩ := mem_nds.1 hp
      obtain ⟨_, hq'⟩ := mem_nds.1 hq
      have h1 := ht _ (mem_edges.2 (.inl ⟨x, hx, mem_eDom.2 (by rw [if_neg h0]; exact ⟨p, hp', q, hq', hlt, .inl rfl⟩)⟩))
      have h2 := ht _ (mem_edges.2 (.inl ⟨x, hx, mem_eDom.2 (by rw [if_neg h0]; exact ⟨p, hp', q, hq', hlt, .inr rfl⟩)⟩))
      dsimp only at h1 h2 ⊢
      omega
    · have h1 := ht _ (mem_edges.2 (.inr ⟨s, hs, show (⟨nix (nds d l id at_) (s.a, s.ata), nix (nds d l id at_) (s.b, s.lo), 0⟩ : Ed) ∈ eSnap (nds d l id at_) s by simp [eSnap]⟩))
      have h2 := ht _ (mem_edges.2 (.inr ⟨s, hs, show (⟨nix (nds d l id at_) (s.b, s.hi), nix (nds d l id at_) (s.a, s.ata), 0⟩ : Ed) ∈ eSnap (nds d l id at_) s by simp [eSnap]⟩))
      dsimp only at h1 h2 ⊢
      omega
  link k hk hr := by
    refine links (S := (· ∈ nds d l id at_)) (f := nix (nds d l id at_)) (l := l) (fun p hp => ?_) (fun i p q h0 hp hq => ?_) (fun s hs => ?_) hr k.2 hk
    · obtain ⟨⟨x, hx, e⟩, hp'⟩ := mem_nds.1 hp
      have e : x.id = 0 := e
      have h1 := Conn.one _ (mem_edges.2 (.inl ⟨x, hx, mem_eDom.2 (by rw [if_pos e]; exact ⟨p, by rw [e]; exact hp', .inl rfl⟩)⟩))
      have h2 := Conn.one _ (mem_edges.2 (.inl ⟨x, hx, mem_eDom.2 (by rw [if_pos e]; exact ⟨p, by rw [e]; exact hp', .inr rfl⟩)⟩))
      rw [e] at h1 h2
      exact ⟨h1, h2⟩
    · obtain ⟨⟨x, hx, e⟩, hp'⟩ := mem_nds.1 hp
      obtain ⟨_, hq'⟩ := mem_nds.1 hq
      have e : x.id = i := e
      subst e
      rcases Int.lt_trichotomy q p with hlt | heq | hlt
      · exact Conn.one _ (mem_edges.2 (.inl ⟨x, hx, mem_eDom.2 (by rw [if_neg h0]; exact ⟨p, hp', q, hq', hlt, .inr rfl⟩)⟩))
      · subst heq; exact .refl
      · exact Conn.one _ (mem_edges.2 (.inl ⟨x, hx, mem_eDom.2 (by rw [if_neg h0]; exact ⟨q, hq', p, hp', hlt, .inl rfl⟩)⟩))
    · obtain ⟨k1, k2, k3⟩ := snap_nds (id := id) (at_ := at_) g hs
      exact ⟨k1, k2, k3, Conn.one _ (mem_edges.2 (.inr ⟨s, hs, show (⟨nix (nds d l id at_) (s.a, s.ata), nix (nds d l id at_) (s.b, s.lo), 0⟩ : Ed) ∈ eSnap (nds d l id at_) s by simp [eSnap]⟩)),
        Conn.one _ (mem_edges.2 (.inr ⟨s, hs, show (⟨nix (nds d l id at_) (s.b, s.hi), nix (nds d l id at_) (s.a, s.ata), 0⟩ : Ed) ∈ eSnap (nds d l id at_) s by simp [eSnap]⟩))⟩
end
end Bd
end Go.Proofs.Ytaglpampidlbmaa

namespace Go.Proofs.Ytaglpampidlbmaa
open Go Go.Eng
namespace Bd
/-! ### Drifts: lower and upper stretched distances -/
def sLo (m d : Int) : Int := d * (1000000 - m) / 1000000
def sHi (m d : Int) : Int := (d * (1000000 + m) + 999999) / 1000000
theorem lo_hi {m : Int} (h0 : 0 ≤ m) (h1 : m ≤ 10000) {d : Int} (hd : 0 ≤ d) : sLo m d ≤ d ∧ d ≤ sHi m d ∧ 0 ≤ sLo m d := by
  unfold sLo sHi
  have e1 : d * (1000000 - m) = d * 1000000 - d * m := by rw [Int.mul_sub]
  have e2 : d * (1000000 + m) = d * 1000000 + d * m := by rw [Int.mul_add]
  have h3 : 0 ≤ d * m := Int.mul_nonneg hd h0
  have h4 : 0 ≤ d * (1000000 - m) := Int.mul_nonneg hd (by omega)
  rw [e2]
  generalize d * (1000000 - m) = A at *
  generalize d * m = B at *
  omega
/-- Sums of distances. -/
theorem lo_add {m a b : Int} : sLo m a + sLo m b ≤ sLo m (a + b) := by
  unfold sLo
  rw [Int.add_mul]
  generalize a * (1000000 - m) = A
  generalize b * (1000000 - m) = B
  omega
theorem hi_add {m a b : Int} : sHi m (a + b) ≤ sHi m a + sHi m b := by
  unfold sHi
  rw [Int.add_mul]
  generalize a * (1000000 + m) = A
  generalize b * (1000000 + m) = B
  omega
theorem lo_hi_add {m : Int} (h0 : 0 ≤ m) {a b : Int} (hb : 0 ≤ b) : sLo m (a + b) ≤ sLo m a + sHi m b := by
  unfold sLo sHi
  have e1 : b * (1000000 - m) = b * 1000000 - b * m := by rw [Int.mul_sub]
  have e2 : b * (1000000 + m) = b * 1000000 + b * m := by rw [Int.mul_add]
  have h3 : 0 ≤ b * m := Int.mul_nonneg hb h0
  rw [Int.add_mul, e1, e2]
  generalize a * (1000000 - m) = A
  generalize b * m = B at *
  omega
theorem hi_lo_add {m : Int} (h0 : 0 ≤ m) {a b : Int} (hb : 0 ≤ b) : sHi m a + sLo m b ≤ sHi m (a + b) := by
  unfold sLo sHi
  have e1 : b * (1000000 - m) = b * 1000000 - b * m := by rw [Int.mul_sub]
  have e2 : b * (1000000 + m) = b * 1000000 + b * m := by rw [Int.mul_add]
  have h3 : 0 ≤ b * m := Int.mul_nonneg hb h0
  rw [Int.add_mul, e1, e2]
  generalize a * (1000000 + m) = A
  generalize b * m = B at *
  omega
theorem stretch_is {d m : Int} (hd : 0 ≤ d ∧ d ≤ 1000000000000) (hm : 0 ≤ m ∧ m ≤ 10000) : (Iv.stretchF d m).1 = (sLo m d, sHi m d) := by
  have hg : Iv.strGuard d m = false := by simp [Iv.strGuard]; omega
  rw [Iv.stretch_pos hg (by omega)]; rfl
/-- Intervals that meet two by two have a common number. -/
theorem helly (L : List (Int × Int)) (h : ∀ a ∈ L, ∀ b ∈ L, a.1 ≤ b.2) : ∃ t, ∀ a ∈ L, a.1 ≤ t ∧ t ≤ a.2 := by
  induction L with
  | nil => exact ⟨0, fun a ha => by cases ha⟩
  | cons x r ih =>
    cases r with
    | nil => exact ⟨x.1, fun a ha => by
        have : a = x := by simpa using ha
        subst this; exact ⟨Int.le_refl _, h _ (by simp) _ (by simp)⟩⟩
    | cons y r' =>
      -- the greatest lower end
      have key : ∀ (L : List (Int × Int)), L ≠ [] → ∃ a ∈ L, ∀ b ∈ L, b.1 ≤ a.1 := by
        intro L
        induction L with
        | nil => intro h; exact absurd rfl h
        | cons z r ih =>
          intro _
          cases r with
          | nil =>
            refine ⟨z, by simp, fun b hb => ?_⟩
            have : b = z := by simpa using hb
            subst this; exact Int.le_refl _
          | cons w r'' =>
            obtain ⟨a, ha, hb⟩ := ih (by simp)
            by_cases hz : z.1 ≤ a.1
            · exact ⟨a, List.mem_cons_of_mem _ ha, fun b hb' => by
                rcases List.mem_cons.1 hb' with rfl | hb'
                · exact hz
                · exact hb b hb'⟩
            · exact ⟨z, by simp, fun b hb' => by
                rcases List.mem_cons.1 hb' with rfl | hb'
                · exact Int.le_refl _
                · have := hb b hb'; omega⟩
      obtain ⟨a, ha, hb⟩ := key (x :: y :: r') (by simp)
      exact ⟨a.1, fun b hb' => ⟨hb b hb', h a ha b hb'⟩⟩
/-- Times of some readings of a clock: one more reading can be timed. -/
theorem extend1 {m : Int} (h0 : 0 ≤ m) (h1 : m ≤ 10000) (ps : List Int) (T : Int → Int)
    (hT : ∀ p ∈ ps, ∀ q ∈ ps, q < p → sLo m (p - q) ≤ T p - T q ∧ T p - T q ≤ sHi m (p - q)) (z : Int) :
    ∃ t, ∀ p ∈ ps, (p < z → sLo m (z - p) ≤ t - T p ∧ t - T p ≤ sHi m (z - p)) ∧ (z < p → sLo m (p - z) ≤ T p - t ∧ T p - t ≤ sHi m (p - z)) ∧ (p = z → t = T p) := by
  let iv : Int → Int × Int := fun p => if p < z then (T p + sLo m (z - p), T p + sHi m (z - p)) else if z < p then (T p - sHi m (p - z), T p - sLo m (p - z)) else (T p, T p)
  obtain ⟨t, ht⟩ := helly (ps.map iv) fun a ha b hb => by
    obtain ⟨p, hp, rfl⟩ := List.mem_map.1 ha
    obtain ⟨q, hq, rfl⟩ := List.mem_map.1 hb
    have e1 : p < q → sLo m (q - p) ≤ T q - T p ∧ T q - T p ≤ sHi m (q - p) := fun h => hT q hq p hp h
    have e2 : q < p → sLo m (p - q) ≤ T p - T q ∧ T p - T q ≤ sHi m (p - q) := fun h => hT p hp q hq h
    have e3 : p = q → T p = T q := fun h => by rw [h]
    simp only [iv]
    rcases Int.lt_trichotomy p z with c1 | c1 | c1 <;> rcases Int.lt_trichotomy q z with c2 | c2 | c2
    · rw [if_pos c1, if_pos c2]
      dsimp only
      rcases Int.lt_trichotomy p q with c | c | c
      · have := lo_hi_add h0 (a := q - p) (b := z - q) (by omega)
        rw [show q - p + (z - q) = z - p by omega] at this
        have := e1 c; omega
      · subst c
        have := lo_hi h0 h1 (d := z - p) (by omega); omega
      · have := hi_lo_add h0 (a := p - q) (b := z - p) (by omega)
        rw [show p - q + (z - p) = z - q by omega] at this
        have := e2 c; omega
    · rw [if_pos c1, if_neg (by omega), if_neg (by omega)]
      subst c2
      have := e1 c1; dsimp only; omega
    · rw [if_pos c1, if_neg (by omega), if_pos c2]
      have := lo_add (m := m) (a := z - p) (b := q - z)
      rw [show z - p + (q - z) = q - p by omega] at this
      have := e1 (by omega); dsimp only; omega
    · rw [if_neg (by omega), if_neg (by omega), if_pos c2]
      subst c1
      have := e2 c2; dsimp only; omega
    · rw [if_neg (by omega), if_neg (by omega), if_neg (by omega), if_neg (by omega)]
      have := e3 (by omega); dsimp only; omega
    · rw [if_neg (by omega), if_neg (by omega), if_neg (by omega), if_pos c2]
      subst c1
      have := e1 c2; dsimp only; omega
    · rw [if_neg (by omega), if_pos c1, if_pos c2]
      have := hi_add (m := m) (a := z - q) (b := p - z)
      rw [show z - q + (p - z) = p - q by omega] at this
      have := e2 (by omega); dsimp only; omega
    · rw [if_neg (by omega), if_pos c1, if_neg (by omega), if_neg (by omega)]
      subst c2
      have := e2 c1; dsimp only; omega
    · rw [if_neg (by omega), if_pos c1, if_neg (by omega), if_pos c2]
      dsimp only
      rcases Int.lt_trichotomy p q with c | c | c
      · have := hi_lo_add h0 (a := p - z) (b := q - p) (by omega)
        have := lo_hi_add h0 (a := q - p) (b := p - z) (by omega)
        rw [show q - p + (p - z) = q - z by omega] at this
        have := e1 c; omega
      · subst c
        have := lo_hi h0 h1 (d := p - z) (by omega); omega
      · have := hi_lo_add h0 (a := p - q) (b := q - z) (by omega)
        rw [show p - q + (q - z) = p - z by omega] at this
        have := e2 c; omega
  refine ⟨t, fun p hp => ?_⟩
  have := ht (iv p) (List.mem_map.2 ⟨p, hp, rfl⟩)
  simp only [iv] at this
  refine ⟨fun c => ?_, fun c => ?_, fun c => ?_⟩
  · rw [if_pos c] at this; dsimp only at this; omega
  · rw [if_neg (by omega), if_pos c] at this; dsimp only at this; omega
  · rw [if_neg (by omega), if_neg (by omega)] at this; dsimp only at this; omega
end Bd
end Go.Proofs.Ytaglpampidlbmaa

namespace Go.Proofs.Ytaglpampidlbmaa
open Go Go.Eng
namespace Bd
theorem mulS {K k : Nat} {M : Int} (hM : 0 ≤ M) (h : k < K) : ((K - k : Nat) : Int) * M = ((K - (k + 1) : Nat) : Int) * M + M ∧ 0 ≤ ((K - (k + 1) : Nat) : Int) * M := by
  have e : K - k = (K - (k + 1)) + 1 := by omega
  refine ⟨?_, Int.mul_nonneg (by omega) hM⟩
  rw [e]; push_cast; rw [Int.add_mul, Int.one_mul]
theorem turn_len (b : Bool) (es : List Ed) : (turn b es).length = es.length := by cases b <;> simp [turn]
theorem turn_at (b : Bool) {es : List Ed} {j : Nat} (h : j < es.length) : (turn b es)[j]! = if b = true then swap es[j]! else es[j]! := by
  cases b
  · rfl
  · simp only [turn, if_true]
    rw [getElem!_pos (es.map swap) j (by simpa using h), getElem!_pos es j h, List.getElem_map]
theorem relax1_yes {F : Int} {c : List Int} {b : Bool} {e : Ed} (hc : (!(c[e.u.toNat]! == F) && decide (c[e.u.toNat]! + e.w < c[e.v.toNat]!)) = true) (hle : c[e.u.toNat]! = F ∨ c[e.u.toNat]! < F) : relax1 F (c, b) e = (c.set e.v.toNat (c[e.u.toNat]! + e.w), false) := by
  simp only [Bool.and_eq_true, Bool.not_eq_true', beq_eq_false_iff_ne, decide_eq_true_eq] at hc
  unfold relax1
  rw [if_pos ⟨by rcases hle with h | h; exact absurd h hc.1; exact h, hc.2⟩]
theorem relax1_no {F : Int} {c : List Int} {b : Bool} {e : Ed} (hc : (!(c[e.u.toNat]! == F) && decide (c[e.u.toNat]! + e.w < c[e.v.toNat]!)) = false) : relax1 F (c, b) e = (c, b) := by
  unfold relax1
  rw [if_neg]
  rintro ⟨h1, h2⟩
  dsimp only at h1 h2
  have h3 : c[e.u.toNat]! ≠ F := by omega
  have key : (!(c[e.u.toNat]! == F) && decide (c[e.u.toNat]! + e.w < c[e.v.toNat]!)) = true := by
    simp only [Bool.and_eq_true, Bool.not_eq_true', beq_eq_false_iff_ne, decide_eq_true_eq]
    exact ⟨h3, h2⟩
  rw [key] at hc
  cases hc
theorem fold_take {F : Int} {es : List Ed} {j : Nat} {s : List Int × Bool} (hj : j < es.length) : (es.take (j + 1)).foldl (relax1 F) s = relax1 F ((es.take j).foldl (relax1 F) s) es[j]! := by
  rw [take_bang hj, List.foldl_append]; rfl
theorem relaxN_yes {F : Int} {es : List Ed} {k : Nat} {c c2 : List Int} (h : round F es c = (c2, true)) (hk : 0 < k) : relaxN F es k c = (c2, true) := by
  cases k with
  | zero => omega
  | succ k => unfold relaxN; rw [h]; rfl
theorem relaxN_no {F : Int} {es : List Ed} {k : Nat} {c c2 : List Int} (h : round F es c = (c2, false)) (hk : 0 < k) : relaxN F es k c = relaxN F es (k - 1) c2 := by
  cases k with
  | zero => omega
  | succ k =>
    rw [Nat.add_sub_cancel]
    conv => lhs; unfold relaxN
    rw [h]; rfl
theorem bnd_relax1 {F B W : Int} {n : Nat} {c : List Int} {b : Bool} {e : Ed} {s : List Int × Bool} (h : relax1 F (c, b) e = s) (hl : c.length = n) (he : EdOK n W e) (hb : Bnd F B c) (hB : B + W < F) (hW : 0 ≤ W) : Bnd F (B + W) s.1 ∧ s.1.length = n := by
  have := relax1_spec (c, b) e hl he hb hB hW
  rw [h] at this
  exact ⟨this.bnd, this.len.trans hl⟩
theorem edok_swap1 {n : Nat} {W : Int} {e : Ed} (h : EdOK n W e) : EdOK n W (swap e) := ⟨h.2.2.1, h.2.2.2.1, h.1, h.2.1, h.2.2.2.2.1, h.2.2.2.2.2⟩
theorem round_of {F : Int} {b b2 : Bool} {es : List Ed} {j : Nat} {c c2 : List Int} (h : ((turn b es).take j).foldl (relax1 F) (c, true) = (c2, b2)) (hj : es.length ≤ j) : round F (turn b es) c = (c2, b2) := by
  rw [List.take_of_length_le (by rw [turn_len]; exact hj)] at h
  exact h
theorem bnd_rep0 (n : Nat) : Bnd far 0 (List.replicate n 0) := fun x hx => by
  have := List.eq_of_mem_replicate hx
  exact .inr (by omega)
theorem bnd_from (n : Nat) : Bnd far 0 ((List.replicate n far).set 0 0) := fun x hx => by
  rcases List.mem_or_eq_of_mem_set hx with h | h
  · exact .inl (List.eq_of_mem_replicate h)
  · exact .inr (by omega)
theorem at_nat {F B : Int} {c : List Int} {n : Nat} {v : Int} (hb : Bnd F B c) (hl : c.length = n) (h0 : 0 ≤ v) (hn : v < n) : c[v.toNat]! = F ∨ (-B ≤ c[v.toNat]! ∧ c[v.toNat]! ≤ B) := hb.at h0 (by omega)
end Bd
end Go.Proofs.Ytaglpampidlbmaa
