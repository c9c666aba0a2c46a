/- What bounds mean, in plain Lean: the laws of the chapter. Conditions: none.
   The laws of the chapter, in plain terms. Conditions: none.
   The chapter's examples, in plain terms. Conditions: none.
   What the laws' questions come to, in plain terms. Conditions: none. -/
import Derived.Test.YtaglpampidlbmaaBdM3
namespace Go.Proofs.Ytaglpampidlbmaa
open Go Go.Eng
namespace Bd
section
variable {d : List Ck.Dom} {l m : List Ck.Snap} {id at_ : Int}
theorem Sat.congr {S S' : Key → Prop} {T : Key → Int} (h : ∀ k, S k ↔ S' k) : Sat d l S T ↔ Sat d l S' T :=
  ⟨fun q => q.mono (fun k hk => (h k).2 hk) (fun _ hs => hs), fun q => q.mono (fun k hk => (h k).1 hk) (fun _ hs => hs)⟩
/-- Times of the reference are its readings: they may always be put in. -/
theorem zero_ext {S S' : Key → Prop} {T : Key → Int} (h : Sat d l S T) (hS : ∀ k, S' k → k.1 ≠ 0 → S k) (hk : ∀ s ∈ m, S (s.a, s.ata) ∧ S (s.b, s.lo) ∧ S (s.b, s.hi)) (hm : ∀ s ∈ m, s ∈ l) : Sat d m S' (fun k => if k.1 = 0 then k.2 else T k) := by
  have hT : ∀ k, S k → (if k.1 = 0 then k.2 else T k) = T k := fun k hk => by
    split
    · rename_i h0
      obtain ⟨a, b⟩ := k
      simp only at h0
      subst h0
      exact (h.zero b hk).symm
    · rfl
  refine ⟨fun p _ => if_pos rfl, fun x hx h0 p q hp hq hlt => ?_, fun s hs => ?_⟩
  · have := h.pair x hx h0 p q (hS _ hp h0) (hS _ hq h0) hlt
    simp only [h0, if_false]
    exact this
  · obtain ⟨k1, k2, k3⟩ := hk s hs
    have e1 := hT _ k1
    have e2 := hT _ k2
    have e3 := hT _ k3
    have := h.snap s (hm s hs)
    dsimp only at e1 e2 e3 ⊢
    rw [e1, e2, e3]
    exact this
/-! ### Bounds of linked readings -/
theorem gap {S : Key → Prop} {T : Key → Int} (g : Good d l) (h : Sat d l S T) (hr : ∀ k, S k → 0 ≤ k.2 ∧ k.2 ≤ 1000000000000) {i a b : Int} (hi : ∃ x ∈ d, x.id = i) (ha : S (i, a)) (hb : S (i, b)) : -Wm ≤ T (i, a) - T (i, b) ∧ T (i, a) - T (i, b) ≤ Wm := by
  have hW : Wm = 1010000000000 := rfl
  have r1 := hr _ ha
  have r2 := hr _ hb
  dsimp only at r1 r2
  by_cases h0 : i = 0
  · subst h0
    rw [h.zero a ha, h.zero b hb]; omega
  · obtain ⟨x, hx, rfl⟩ := hi
    rcases Int.lt_trichotomy a b with hlt | heq | hlt
    · have := h.pair x hx h0 b a hb ha hlt
      have := str_W (b - a) x.ppm
      omega
    · subst heq; omega
    · have := h.pair x hx h0 a b ha hb hlt
      have := str_W (a - b) x.ppm
      omega
def Bd' (S : Key → Prop) (T : Key → Int) (b : Int) (F : Int → Bool) : Prop := ∀ q, F q = true → ∀ p, S (q, p) → -b ≤ T (q, p) ∧ T (q, p) ≤ b
theorem Bd'.mono {S : Key → Prop} {T : Key → Int} {b b' : Int} {F : Int → Bool} (h : Bd' S T b F) (hb : b ≤ b') : Bd' S T b' F := fun q hq p hp => by have := h q hq p hp; omega
theorem bd_step {S : Key → Prop} {T : Key → Int} {b : Int} {F : Int → Bool} (g : Good d l) (h : Sat d l S T) (hr : ∀ k, S k → 0 ≤ k.2 ∧ k.2 ≤ 1000000000000) {s : Ck.Snap} (hs : s ∈ l) (hk : S (s.a, s.ata) ∧ S (s.b, s.lo) ∧ S (s.b, s.hi)) (hb : Bd' S T b F) : Bd' S T (b + Wm) (Ck.step F s) := by
  have hW : Wm = 1010000000000 := rfl
  obtain ⟨da, db, _⟩ := g.snap s hs
  obtain ⟨k1, k2, k3⟩ := hk
  have hsn := h.snap s hs
  unfold Ck.step
  split
  · rename_i hc
    intro q hq p hp
    simp only [Bool.or_eq_true, beq_iff_eq] at hq
    by_cases hFq : F q = true
    · have := hb q hFq p hp; omega
    · rcases hq with (rfl | rfl) | hq
      · have hFb : F s.b = true := by
          rcases (Bool.or_eq_true _ _).mp hc with q | q
          · exact absurd q hFq
          · exact q
        have g1 := gap g h hr da hp k1
        have b1 := hb _ hFb _ k2
        have b2 := hb _ hFb _ k3
        omega
      · have hFa : F s.a = true := by
          rcases (Bool.or_eq_true _ _).mp hc with q | q
          · exact q
          · exact absurd q hFq
        have g1 := gap g h hr db hp k2
        have g2 := gap g h hr db hp k3
        have b1 := hb _ hFa _ k1
        omega
      · exact absurd hq hFq
  · exact hb.mono (by omega)
theorem bd_fold {S : Key → Prop} {T : Key → Int} (g : Good d l) (h : Sat d l S T) (hr : ∀ k, S k → 0 ≤ k.2 ∧ k.2 ≤ 1000000000000) : ∀ (r : List Ck.Snap) (b : Int) (F : Int → Bool), (∀ s ∈ r, s ∈ l ∧ S (s.a, s.ata) ∧ S (s.b, s.lo) ∧ S (s.b, s.hi)) → Bd' S T b F → Bd' S T (b + r.length * Wm) (r.foldl Ck.step F)
  | [], b, F, _, hb => hb.mono (by simp)
  | s :: r, b, F, hr', hb => by
    have h1 := bd_step g h hr (hr' s (by simp)).1 (hr' s (by simp)).2 hb
    have := bd_fold g h hr r _ _ (fun x hx => hr' x (by simp [hx])) h1
    rw [List.foldl_cons]
    exact this.mono (by rw [List.length_cons]; push_cast; rw [Int.add_mul]; omega)
theorem bd_rounds {S : Key → Prop} {T : Key → Int} (g : Good d l) (h : Sat d l S T) (hr : ∀ k, S k → 0 ≤ k.2 ∧ k.2 ≤ 1000000000000) {r : List Ck.Snap} (hr' : ∀ s ∈ r, s ∈ l ∧ S (s.a, s.ata) ∧ S (s.b, s.lo) ∧ S (s.b, s.hi)) : ∀ n : Nat, Bd' S T (1000000000000 + n * (r.length * Wm)) (Ck.rounds r n)
  | 0 => fun q hq p hp => by
    have : q = 0 := by simpa [Ck.rounds] using hq
    subst this
    have := hr _ hp
    dsimp only at this
    rw [h.zero p hp]; omega
  | n + 1 => by
    have := bd_fold g h hr r _ _ hr' (bd_rounds g h hr hr' n)
    show Bd' S T _ (r.foldl Ck.step (Ck.rounds r n))
    exact this.mono (by push_cast; rw [Int.add_mul]; omega)
theorem linked_bd {S : Key → Prop} {T : Key → Int} (h : Sat d l S T) (hr : ∀ k, S k → 0 ≤ k.2 ∧ k.2 ≤ 1000000000000) (hk : ∀ s ∈ l, S (s.a, s.ata) ∧ S (s.b, s.lo) ∧ S (s.b, s.hi)) (hl : l.length ≤ 11) (hL : Ck.linkedF d l id = true) {p : Int} (hp : S (id, p)) : -100000000000000 ≤ T (id, p) ∧ T (id, p) ≤ 100000000000000 := by
  obtain ⟨ck, _, _⟩ := (Ck.linked_iff d l id).1 hL
  have g := good_of ck
  have hrd : Ck.rounds (Ck.difN l l.length) d.length id = true := by
    unfold Ck.linkedF at hL
    exact (and_t hL).2
  have hb := bd_rounds g h hr (r := Ck.difN l l.length) (fun s hs => by
    have : s ∈ l := by
      have := (Ck.mem_difN l s l.length (Nat.le_refl _)).1 hs
      rwa [List.take_length] at this
    exact ⟨this, hk s this⟩) d.length id hrd p hp
  have h1 := Ck.difN_len l l.length
  have h2 := g.few
  have hW : (0 : Int) ≤ Wm := by unfold Wm; omega
  have h3 : ((Ck.difN l l.length).length : Int) * Wm ≤ 11 * Wm := Int.mul_le_mul_of_nonneg_right (by omega) hW
  have h4 : (d.length : Int) * ((Ck.difN l l.length).length * Wm) ≤ 8 * (11 * Wm) := Int.mul_le_mul (by omega) h3 (Int.mul_nonneg (by omega) hW) (by omega)
  have h5 : (8 : Int) * (11 * Wm) = 88880000000000 := by decide
  omega
/-! ### Of -/
structure OfP (d : List Ck.Dom) (l : List Ck.Snap) (id at_ : Int) (r : Int × Int) : Prop where
  ck : Ck.checkF d l = 0
  hid : ∃ x ∈ d, x.id = id
  ha : 0 ≤ at_ ∧ at_ ≤ 1000000000000
  link : Ck.linkedF d l id = true
  mn : IsMin d l (· ∈ nds d l id at_) (id, at_) r.1
  mx : IsMax d l (· ∈ nds d l id at_) (id, at_) r.2
theorem con_iff (ck : Ck.checkF d l = 0) (hl : l.length ≤ 11) (ha : 0 ≤ at_ ∧ at_ ≤ 1000000000000) : conF d l id at_ = true ↔ ∃ T, Sat d l (· ∈ nds d l id at_) T := by
  have g := good_of ck
  exact (rep_prog g).con (ready_prog g hl ha)
theorem of_cases (d : List Ck.Dom) (l : List Ck.Snap) (id at_ : Int) : (Ck.checkF d l ≠ 0 ∧ ofF d l id at_ = ((0, 0), Ck.checkF d l)) ∨ (Ck.checkF d l = 0 ∧ ¬ (∃ x ∈ d, x.id = id) ∧ ofF d l id at_ = ((0, 0), 5)) ∨
    (Ck.checkF d l = 0 ∧ (∃ x ∈ d, x.id = id) ∧ ¬ (0 ≤ at_ ∧ at_ ≤ 1000000000000) ∧ ofF d l id at_ = ((0, 0), 2)) ∨
    (Ck.checkF d l = 0 ∧ (∃ x ∈ d, x.id = id) ∧ (0 ≤ at_ ∧ at_ ≤ 1000000000000) ∧ Ck.linkedF d l id = false ∧ ofF d l id at_ = ((0, 0), 12)) ∨
    (Ck.checkF d l = 0 ∧ (∃ x ∈ d, x.id = id) ∧ (0 ≤ at_ ∧ at_ ≤ 1000000000000) ∧ Ck.linkedF d l id = true ∧ conF d l id at_ = false ∧ ofF d l id at_ = ((0, 0), 12)) ∨
    (Ck.checkF d l = 0 ∧ (∃ x ∈ d, x.id = id) ∧ (0 ≤ at_ ∧ at_ ≤ 1000000000000) ∧ Ck.linkedF d l id = true ∧ conF d l id at_ = true ∧ ofF d l id at_ = ((-distF true d l id at_, distF false d l id at_), 0)) := by
  unfold ofF
  by_cases c1 : Ck.checkF d l = 0
  · rw [if_neg (by simp [c1])]
    by_cases c2 : 0 ≤ Ck.idx d id 0
    · have hid := Ck.idx_some d id 0 c2
      rw [if_neg (by simp [c2])]
      by_cases c3 : 0 ≤ at_ ∧ at_ ≤ 1000000000000
      · rw [if_neg (by simp; omega)]
        cases c4 : Ck.linkedF d l id
        · exact .inr (.inr (.inr (.inl ⟨c1, hid, c3, rfl, by rfl⟩)))
        · cases c5 : conF d l id at_
          · exact .inr (.inr (.inr (.inr (.inl ⟨c1, hid, c3, rfl, rfl, by rfl⟩))))
          · exact .inr (.inr (.inr (.inr (.inr ⟨c1, hid, c3, rfl, rfl, by rfl⟩))))
      · rw [if_pos (by simp; omega)]
        exact .inr (.inr (.inl ⟨c1, hid, c3, rfl⟩))
    · rw [if_pos (by simpa using c2)]
      exact .inr (.inl ⟨c1, fun h => c2 (Ck.idx_none d id 0 h), rfl⟩)
  · rw [if_pos (by simpa using c1)]
    exact .inl ⟨c1, rfl⟩
theorem of_max (ck : Ck.checkF d l = 0) (hid : ∃ x ∈ d, x.id = id) (hl : l.length ≤ 11) (ha : 0 ≤ at_ ∧ at_ ≤ 1000000000000) (hL : Ck.linkedF d l id = true) (hc : conF d l id at_ = true) : OfP d l id at_ (-distF true d l id at_, distF false d l id at_) := by
  have g := good_of ck
  have rd := ready_prog (id := id) g hl ha
  have rp := rep_prog (id := id) (at_ := at_) g
  have hT := (con_iff ck hl ha).1 hc
  obtain ⟨T, hT'⟩ := hT
  obtain ⟨p, _, _, hp⟩ := rp.make T hT'
  have hr := ((Ck.linked_iff d l id).1 hL).2.2
  have pos : (0 : Int) < ((nN d l id at_ : Nat) : Int) := by unfold nN; omega
  obtain ⟨i1, i2⟩ := rd.relaxed hp (Int.le_refl 0) pos
  obtain ⟨j1, j2⟩ := rd.swap.relaxed (feas_swap hp) (Int.le_refl 0) pos
  exact ⟨ck, hid, ha, hL, rp.min rd (k := (id, at_)) (key_in hid) hr ⟨T, hT'⟩ j1 j2, rp.max rd (k := (id, at_)) (key_in hid) hr ⟨T, hT'⟩ i1 i2⟩
theorem of_ok (hl : l.length ≤ 11) (h : (ofF d l id at_).2 = 0) : OfP d l id at_ (ofF d l id at_).1 := by
  rcases of_cases d l id at_ with ⟨c, e⟩ | ⟨_, _, e⟩ | ⟨_, _, _, e⟩ | ⟨_, _, _, _, e⟩ | ⟨_, _, _, _, _, e⟩ | ⟨c1, c2, c3, c4, c5, e⟩
  · rw [e] at h; exact absurd h c
  · rw [e] at h; cases h
  · rw [e] at h; cases h
  · rw [e] at h; cases h
  · rw [e] at h; cases h
  · rw [e]; exact of_max c1 c2 hl c3 c4 c5
theorem of_zero (h : (ofF d l id at_).2 ≠ 0) : (ofF d l id at_).1 = (0, 0) := by
  rcases of_cases d l id at_ with ⟨_, e⟩ | ⟨_, _, e⟩ | ⟨_, _, _, e⟩ | ⟨_, _, _, _, e⟩ | ⟨_, _, _, _, _, e⟩ | ⟨_, _, _, _, _, e⟩ <;> rw [e] at h ⊢
  exact absurd rfl h
theorem nds_rng (g : Good d l) (ha : 0 ≤ at_ ∧ at_ ≤ 1000000000000) {k : Key} (hk : k ∈ nds d l id at_) : 0 ≤ k.2 ∧ k.2 ≤ 1000000000000 := ptsQ_rng g ha (mem_nds.1 hk).2
theorem OfP.bd {r : Int × Int} (h : OfP d l id at_ r) (hl : l.length ≤ 11) : r.1 ≤ r.2 ∧ (-100000000000000 ≤ r.1 ∧ r.1 ≤ 100000000000000) ∧ (-100000000000000 ≤ r.2 ∧ r.2 ≤ 100000000000000) := by
  have g := good_of h.ck
  obtain ⟨T1, s1, e1⟩ := h.mn.2
  obtain ⟨T2, s2, e2⟩ := h.mx.2
  have hb : ∀ T, Sat d l (· ∈ nds d l id at_) T → -100000000000000 ≤ T (id, at_) ∧ T (id, at_) ≤ 100000000000000 := fun T hT =>
    linked_bd hT (fun k hk => nds_rng g h.ha hk) (fun s hs => snap_nds g hs) hl h.link (key_in h.hid)
  have b1 := hb T1 s1
  have b2 := hb T2 s2
  have := h.mx.1 T1 s1
  omega
/-! ### Of and Consistent are the reference's -/
theorem same_S (ck : Ck.checkF d l = 0) (hid : ∃ x ∈ d, x.id = id) (k : Key) : k ∈ nds d l id at_ ↔ (k ∈ rpts d l [(id, at_)] ∧ k ≠ (-1, 0)) := by
  have hneg := ids_nonneg ck
  rw [mem_nds, rpts_mem (good_of ck) hneg, mem_ptsQ]
  constructor
  · rintro ⟨⟨x, hx, e⟩, h⟩
    refine ⟨?_, fun hk => ?_⟩
    · rcases h with h | ⟨h1, h2⟩
      · exact .inr (.inl ⟨⟨x, hx, e⟩, h⟩)
      · exact .inr (.inr (by rw [List.mem_singleton]; exact Prod.ext h1 h2))
    · have := hneg x hx
      rw [hk] at e
      dsimp only at e
      omega
  · rintro ⟨h | ⟨h1, h2⟩ | h, hne⟩
    · exact absurd h hne
    · exact ⟨h1, .inl h2⟩
    · rw [List.mem_singleton] at h
      subst h
      exact ⟨hid, .inr ⟨rfl, rfl⟩⟩
theorem rcon_iff (ck : Ck.checkF d l = 0) (hl : l.length ≤ 10) {p : List Key} (pg : PG d l p) (hp : p.length ≤ 40) : rConF (rEdges d l p) p.length = true ↔ ∃ T, Sat d l (fun k => k ∈ p ∧ k ≠ (-1, 0)) T :=
  (rep_ref pg).con (ready_ref pg hl hp)
theorem bool_iff {a b : Bool} {P : Prop} (h1 : a = true ↔ P) (h2 : b = true ↔ P) : a = b := by
  cases a <;> cases b <;> simp_all
theorem of_same (hl : l.length ≤ 10) : ofF d l id at_ = rofF d l id at_ := by
  rcases of_cases d l id at_ with ⟨c, e⟩ | ⟨c1, c2, e⟩ | ⟨c1, c2, c3, e⟩ | ⟨c1, c2, c3, c4, e⟩ | ⟨c1, c2, c3, c4, c5, e⟩ | ⟨c1, c2, c3, c4, c5, e⟩ <;> rw [e] <;> unfold rofF
  · rw [if_pos (by simpa using c)]
  · have : ¬ 0 ≤ Ck.idx d id 0 := fun h => c2 (Ck.idx_some d id 0 h)
    rw [if_neg (by simp [c1]), if_pos (by rw [ppm_snd c1]; simpa using this)]
  · have : 0 ≤ Ck.idx d id 0 := Ck.idx_none d id 0 c2
    rw [if_neg (by simp [c1]), if_neg (by rw [ppm_snd c1]; simp [this]), if_pos (by simp; omega)]
  · have : 0 ≤ Ck.idx d id 0 := Ck.idx_none d id 0 c2
    rw [if_neg (by simp [c1]), if_neg (by rw [ppm_snd c1]; simp [this]), if_neg (by simp; omega), if_pos (by rw [c4]; rfl)]
  all_goals
    have hi : 0 ≤ Ck.idx d id 0 := Ck.idx_none d id 0 c2
    have pg := rpts_pg c1 (m := [(id, at_)]) (one_key c2 c3)
    have hp : (rpts d l [(id, at_)]).length ≤ 40 := Nat.le_trans (rpts_small c1) (by simp; omega)
    have hcon : conF d l id at_ = rConF (rEdges d l (rpts d l [(id, at_)])) (rpts d l [(id, at_)]).length := by
      refine bool_iff (con_iff c1 (by omega) c3) ?_
      rw [rcon_iff c1 hl pg hp]
      exact exists_congr fun T => (Sat.congr (same_S c1 c2)).symm
    rw [c5] at hcon
  · rw [if_neg (by simp [c1]), if_neg (by rw [ppm_snd c1]; simp [hi]), if_neg (by simp; omega), if_pos (by rw [c4, ← hcon]; rfl)]
  · rw [if_neg (by simp [c1]), if_neg (by rw [ppm_snd c1]; simp [hi]), if_neg (by simp; omega), if_neg (by rw [c4, ← hcon]; decide)]
    have hO := of_max c1 c2 (by omega) c3 c4 c5
    have rd := ready_ref pg hl hp
    have rp := rep_ref pg
    obtain ⟨T, hT⟩ := (rcon_iff c1 hl pg hp).1 hcon.symm
    obtain ⟨t, _, _, ht⟩ := rp.make T hT
    have hr := ((Ck.linked_iff d l id).1 c4).2.2
    have hS : (id, at_) ∈ rpts d l [(id, at_)] ∧ ((id, at_) : Key) ≠ (-1, 0) := (same_S c1 c2 _).1 (key_in c2)
    have pos : (0 : Int) < (((rpts d l [(id, at_)]).length : Nat) : Int) := by have := pg.pos; omega
    have hf := fnd_rng hS.1
    obtain ⟨i1, i2⟩ := rd.iterated ht (Int.le_refl 0) pos
    obtain ⟨j1, j2⟩ := rd.iterated ht hf.1 hf.2
    have mx := rp.max rd (k := (id, at_)) hS hr ⟨T, hT⟩ i1 i2
    have mn := rp.min' rd (k := (id, at_)) hS hr ⟨T, hT⟩ j1 j2
    have mx' : IsMax d l (· ∈ nds d l id at_) (id, at_) _ := ⟨fun T hT => mx.1 T ((Sat.congr (same_S c1 c2)).1 hT), by obtain ⟨T, h1, h2⟩ := mx.2; exact ⟨T, (Sat.congr (same_S c1 c2)).2 h1, h2⟩⟩
    have mn' : IsMin d l (· ∈ nds d l id at_) (id, at_) _ := ⟨fun T hT => mn.1 T ((Sat.congr (same_S c1 c2)).1 hT), by obtain ⟨T, h1, h2⟩ := mn.2; exact ⟨T, (Sat.congr (same_S c1 c2)).2 h1, h2⟩⟩
    have e1 := hO.mx.unique mx'
    have e2 := hO.mn.unique mn'
    dsimp only at e1 e2
    rw [e1, e2]
theorem cons_sat (ck : Ck.checkF d l = 0) (hl : l.length ≤ 11) : conF d l 0 0 = true ↔ ∃ T, Sat d l (fun k => (∃ x ∈ d, x.id = k.1) ∧ k.2 ∈ Ck.pts l k.1) T := by
  have g := good_of ck
  rw [con_iff ck hl (by omega)]
  constructor
  · rintro ⟨T, hT⟩
    exact ⟨T, hT.mono (fun k hk => mem_nds.2 ⟨hk.1, mem_ptsQ.2 (.inl hk.2)⟩) (fun _ h => h)⟩
  · rintro ⟨T, hT⟩
    refine ⟨_, zero_ext (S' := (· ∈ nds d l 0 0)) hT (fun k hk h0 => ?_) (fun s hs => ?_) (fun _ h => h)⟩
    · obtain ⟨h1, h2⟩ := mem_nds.1 hk
      refine ⟨h1, ?_⟩
      rcases mem_ptsQ.1 h2 with h | ⟨h, _⟩
      · exact h
      · exact absurd h h0
    · obtain ⟨h1, h2, _⟩ := g.snap s hs
      exact ⟨⟨h1, mem_raw.2 ⟨s, hs, .inl ⟨rfl, rfl⟩⟩⟩, ⟨h2, mem_raw.2 ⟨s, hs, .inr ⟨rfl, .inl rfl⟩⟩⟩, ⟨h2, mem_raw.2 ⟨s, hs, .inr ⟨rfl, .inr rfl⟩⟩⟩⟩
theorem cons_same (hl : l.length ≤ 10) : consF d l = rconsF d l := by
  unfold consF rconsF
  by_cases ck : Ck.checkF d l = 0
  · rw [ck]
    have pg := rpts_pg ck (m := []) (fun k hk => by cases hk)
    have hp : (rpts d l []).length ≤ 40 := Nat.le_trans (rpts_small ck) (by simp; omega)
    have : conF d l 0 0 = rConF (rEdges d l (rpts d l [])) (rpts d l []).length := by
      refine bool_iff (cons_sat ck (by omega)) ?_
      rw [rcon_iff ck hl pg hp]
      refine exists_congr fun T => Sat.congr fun k => ?_
      have hneg := ids_nonneg ck
      rw [rpts_mem (good_of ck) hneg]
      constructor
      · rintro ⟨h | h | h, hne⟩
        · exact absurd h hne
        · exact h
        · cases h
      · intro h
        refine ⟨.inr (.inl h), fun e => ?_⟩
        obtain ⟨x, hx, e1⟩ := h.1
        have := hneg x hx
        rw [e] at e1
        dsimp only at e1
        omega
    rw [this]
  · rw [show (Ck.checkF d l == 0) = false from by simpa using ck]; rfl
end
end Bd
end Go.Proofs.Ytaglpampidlbmaa

namespace Go.Proofs.Ytaglpampidlbmaa
open Go Go.Eng
namespace Bd
section
variable {d : List Ck.Dom} {l m : List Ck.Snap} {id at_ : Int}
theorem nds_mono (h : ∀ s ∈ l, s ∈ m) {k : Key} (hk : k ∈ nds d l id at_) : k ∈ nds d m id at_ := by
  obtain ⟨h1, h2⟩ := mem_nds.1 hk
  refine mem_nds.2 ⟨h1, mem_ptsQ.2 ?_⟩
  rcases mem_ptsQ.1 h2 with h2 | h2
  · obtain ⟨s, hs, h3⟩ := mem_raw.1 h2
    exact .inl (mem_raw.2 ⟨s, h s hs, h3⟩)
  · exact .inr h2
theorem narrows (hl : l.length ≤ 11) (hm : m.length ≤ 11) (h : ∀ s ∈ l, s ∈ m) (ha : (ofF d l id at_).2 = 0) (hb : (ofF d m id at_).2 = 0) : (ofF d l id at_).1.1 ≤ (ofF d m id at_).1.1 ∧ (ofF d m id at_).1.2 ≤ (ofF d l id at_).1.2 := by
  have A := of_ok hl ha
  have B := of_ok hm hb
  obtain ⟨T1, s1, e1⟩ := B.mn.2
  obtain ⟨T2, s2, e2⟩ := B.mx.2
  have h1 := A.mn.1 T1 (s1.mono (fun k hk => nds_mono h hk) h)
  have h2 := A.mx.1 T2 (s2.mono (fun k hk => nds_mono h hk) h)
  omega
/-- The reference shows the reference time. -/
theorem of_ref (hl : l.length ≤ 11) (h : (ofF d l 0 at_).2 = 0) : (ofF d l 0 at_).1 = (at_, at_) := by
  have A := of_ok hl h
  obtain ⟨T1, s1, e1⟩ := A.mn.2
  obtain ⟨T2, s2, e2⟩ := A.mx.2
  have h1 := s1.zero at_ (key_in A.hid)
  have h2 := s2.zero at_ (key_in A.hid)
  exact Prod.ext (by omega) (by omega)
/-! ### A snapshot that fixes a reading -/
theorem check_app (ck : Ck.checkF d l = 0) {s : Ck.Snap} (hs : Ck.snapF d s = 0) (hl : l.length ≤ 10) : Ck.checkF d (([] ++ l) ++ [s]) = 0 := by
  obtain ⟨h1, h2, h3, h4, h5, h6⟩ := Ck.check_ok ck
  have hss : Ck.snaps d (([] ++ l) ++ [s]) = 0 := Ck.snaps_of_all fun x hx => by
    rcases List.mem_append.1 hx with hx | hx
    · exact Ck.snaps_all h6 x (by simpa using hx)
    · have : x = s := by simpa using hx
      subst this; exact hs
  unfold Ck.checkF at ck ⊢
  rw [if_neg h1, if_neg (by omega)] at ck
  rw [if_neg h1, if_neg (by simp; omega)]
  split at ck
  · rename_i hc
    rw [if_pos hc, if_pos (by rw [h5]; rfl)]; exact hss
  · cases ck
theorem reached (hl : l.length ≤ 10) (h0 : id ≠ 0) (h : (ofF d l id at_).2 = 0) {t : Int} (ht : 0 ≤ t ∧ t ≤ 1000000000000) (hx : t = (ofF d l id at_).1.1 - 1 ∨ t = (ofF d l id at_).1.1 ∨ t = (ofF d l id at_).1.2 ∨ t = (ofF d l id at_).1.2 + 1) :
    consF d (([] ++ l) ++ [⟨id, at_, 0, t, t⟩]) = decide ((ofF d l id at_).1.1 ≤ t ∧ t ≤ (ofF d l id at_).1.2) := by
  have A := of_ok (by omega) h
  have g := good_of A.ck
  have hsn : Ck.snapF d ⟨id, at_, 0, t, t⟩ = 0 := by
    unfold Ck.snapF
    have i1 := Ck.idx_none d id 0 A.hid
    have i2 := Ck.idx_none d 0 0 g.zero
    have := A.ha
    rw [if_neg (by simp; omega), if_neg (by simpa using h0), if_neg (by simp [Ck.readB]; omega)]
  have ckM := check_app A.ck hsn hl
  have gM := good_of ckM
  have lM : (([] ++ l) ++ [(⟨id, at_, 0, t, t⟩ : Ck.Snap)]).length ≤ 11 := by simp; omega
  have hsub : ∀ s ∈ l, s ∈ ([] ++ l) ++ [(⟨id, at_, 0, t, t⟩ : Ck.Snap)] := fun s hs => by simp [hs]
  have hnew : (⟨id, at_, 0, t, t⟩ : Ck.Snap) ∈ ([] ++ l) ++ [(⟨id, at_, 0, t, t⟩ : Ck.Snap)] := by simp
  unfold consF
  rw [show (Ck.checkF d (([] ++ l) ++ [⟨id, at_, 0, t, t⟩]) == 0) = true from by rw [ckM]; rfl, Bool.true_and]
  refine bool_iff (cons_sat ckM lM) ?_
  rw [decide_eq_true_eq]
  have A' := A.bd (by omega)
  constructor
  · intro hrange
    -- the ends are taken
    have hT : ∃ T, Sat d l (· ∈ nds d l id at_) T ∧ T (id, at_) = t := by
      rcases hx with hx | hx | hx | hx
      · omega
      · obtain ⟨T, h1, h2⟩ := A.mn.2; exact ⟨T, h1, by omega⟩
      · obtain ⟨T, h1, h2⟩ := A.mx.2; exact ⟨T, h1, by omega⟩
      · omega
    obtain ⟨T, hT, e⟩ := hT
    refine ⟨fun k => if k.1 = 0 then k.2 else T k, ?_⟩
    have base := zero_ext (m := l) (S' := fun k => (∃ x ∈ d, x.id = k.1) ∧ k.2 ∈ Ck.pts (([] ++ l) ++ [(⟨id, at_, 0, t, t⟩ : Ck.Snap)]) k.1) hT (fun k hk hk0 => by
      refine mem_nds.2 ⟨hk.1, mem_ptsQ.2 ?_⟩
      obtain ⟨s, hs, hc⟩ := mem_raw.1 hk.2
      rcases List.mem_append.1 hs with hs | hs
      · exact .inl (mem_raw.2 ⟨s, by simpa using hs, hc⟩)
      · have : s = ⟨id, at_, 0, t, t⟩ := by simpa using hs
        subst this
        rcases hc with ⟨h1, h2⟩ | ⟨h1, _⟩
        · exact .inr ⟨h1.symm, h2⟩
        · exact absurd h1.symm hk0) (fun s hs => snap_nds g hs) (fun _ hs => hs)
    refine ⟨base.zero, base.pair, fun s hs => ?_⟩
    rcases List.mem_append.1 hs with hs | hs
    · exact base.snap s (by simpa using hs)
    · have : s = ⟨id, at_, 0, t, t⟩ := by simpa using hs
      subst this
      simp only [h0, if_true, if_false]
      omega
  · rintro ⟨T, hT⟩
    have k1 : (fun k : Key => (∃ x ∈ d, x.id = k.1) ∧ k.2 ∈ Ck.pts (([] ++ l) ++ [(⟨id, at_, 0, t, t⟩ : Ck.Snap)]) k.1) (id, at_) := ⟨A.hid, mem_raw.2 ⟨_, hnew, .inl ⟨rfl, rfl⟩⟩⟩
    have k2 : (fun k : Key => (∃ x ∈ d, x.id = k.1) ∧ k.2 ∈ Ck.pts (([] ++ l) ++ [(⟨id, at_, 0, t, t⟩ : Ck.Snap)]) k.1) (0, t) := ⟨g.zero, mem_raw.2 ⟨_, hnew, .inr ⟨rfl, .inl rfl⟩⟩⟩
    have hz := hT.zero t k2
    have hs := hT.snap _ hnew
    dsimp only at hs
    have hR : Sat d l (· ∈ nds d l id at_) T := hT.mono (fun k hk => by
      obtain ⟨h1, h2⟩ := mem_nds.1 hk
      refine ⟨h1, ?_⟩
      rcases mem_ptsQ.1 h2 with h2 | ⟨e1, e2⟩
      · obtain ⟨s, hs, hc⟩ := mem_raw.1 h2
        exact mem_raw.2 ⟨s, hsub s hs, hc⟩
      · rw [e1, e2]; exact k1.2) hsub
    have b1 := A.mn.1 T hR
    have b2 := A.mx.1 T hR
    omega
/-! ### A further reading -/
theorem pair_diff (g : Good d l) {S : Key → Prop} {T : Key → Int} (h : Sat d l S T) {x : Ck.Dom} (hx : x ∈ d) {p q : Int} (hp : S (x.id, p)) (hq : S (x.id, q)) (r1 : 0 ≤ p ∧ p ≤ 1000000000000) (r2 : 0 ≤ q ∧ q ≤ 1000000000000) (hle : q ≤ p) :
    (Iv.stretchF (p - q) x.ppm).1.1 ≤ T (x.id, p) - T (x.id, q) ∧ T (x.id, p) - T (x.id, q) ≤ (Iv.stretchF (p - q) x.ppm).1.2 := by
  rcases Int.lt_or_eq_of_le hle with hlt | heq
  · by_cases h0 : x.id = 0
    · have z1 := h.zero p (by rw [← h0]; exact hp)
      have z2 := h.zero q (by rw [← h0]; exact hq)
      rw [g.still x hx h0, stretch0 (by omega), h0, z1, z2]
      exact ⟨Int.le_refl _, Int.le_refl _⟩
    · exact h.pair x hx h0 p q hp hq hlt
  · subst heq
    rw [stretch_is (by omega) (g.ppm x hx)]
    have e : q - q = 0 := by omega
    rw [e]
    unfold sLo sHi
    simp
theorem ext_pt (g : Good d l) {a z : Int} (ha : 0 ≤ a ∧ a ≤ 1000000000000) (hz : 0 ≤ z ∧ z ≤ 1000000000000) (hid : ∃ x ∈ d, x.id = id) {T : Key → Int} (h : Sat d l (· ∈ nds d l id a) T) :
    ∃ T', Sat d l (fun k => k ∈ nds d l id a ∨ k = (id, z)) T' ∧ ∀ k, k ∈ nds d l id a → T' k = T k := by
  by_cases h0 : id = 0
  · subst h0
    refine ⟨fun k => if k.1 = 0 then k.2 else T k, zero_ext h (fun k hk hk0 => ?_) (fun s hs => snap_nds g hs) (fun _ hs => hs), fun k hk => ?_⟩
    · rcases hk with hk | hk
      · exact hk
      · rw [hk] at hk0; exact absurd rfl hk0
    · show (if k.1 = 0 then k.2 else T k) = T k
      split
      · rename_i e
        obtain ⟨u, v⟩ := k
        simp only at e
        subst e
        exact (h.zero v hk).symm
      · rfl
  · obtain ⟨x, hx, rfl⟩ := hid
    have hp := g.ppm x hx
    obtain ⟨t, ht⟩ := extend1 hp.1 hp.2 (ptsQ l x.id x.id a) (fun p => T (x.id, p)) (fun p hpm q hqm hlt => by
      have r1 := ptsQ_rng g ha hpm
      have r2 := ptsQ_rng g ha hqm
      have := h.pair x hx h0 p q (mem_nds.2 ⟨⟨x, hx, rfl⟩, hpm⟩) (mem_nds.2 ⟨⟨x, hx, rfl⟩, hqm⟩) hlt
      rw [stretch_is (by omega) hp] at this
      exact this) z
    have agree : ∀ k, k ∈ nds d l x.id a → (if k = (x.id, z) then t else T k) = T k := fun k hk => by
      split
      · rename_i e
        subst e
        exact (ht z (mem_nds.1 hk).2).2.2 rfl
      · rfl
    refine ⟨fun k => if k = (x.id, z) then t else T k, ⟨fun p hpz => ?_, fun y hy hy0 p q hpS hqS hlt => ?_, fun s hs => ?_⟩, agree⟩
    · rcases hpz with hpz | hpz
      · have := agree _ hpz
        rw [this]; exact h.zero p hpz
      · exact absurd (congrArg Prod.fst hpz).symm h0
    · by_cases hyx : y.id = x.id
      · have hyx' := g.one y hy x hx hyx
        subst hyx'
        have stz : ∀ {u v : Int}, 0 ≤ u ∧ u ≤ 1000000000000 → 0 ≤ v ∧ v ≤ 1000000000000 → v < u → (Iv.stretchF (u - v) y.ppm).1 = (sLo y.ppm (u - v), sHi y.ppm (u - v)) := fun h1 h2 h3 => stretch_is (by omega) hp
        by_cases ep : p = z
        · by_cases eq : q = z
          · omega
          · subst ep
            have hq' : (y.id, q) ∈ nds d l y.id a := by
              rcases hqS with h | h
              · exact h
              · exact absurd (congrArg Prod.snd h) eq
            have hqm := (mem_nds.1 hq').2
            rw [if_pos rfl, if_neg (by rintro h; exact eq (congrArg Prod.snd h)), stz hz (ptsQ_rng g ha hqm) hlt]
            exact (ht q hqm).1 hlt
        · have hp' : (y.id, p) ∈ nds d l y.id a := by
            rcases hpS with h | h
            · exact h
            · exact absurd (congrArg Prod.snd h) ep
          have hpm := (mem_nds.1 hp').2
          by_cases eq : q = z
          · subst eq
            rw [if_neg (by rintro h; exact ep (congrArg Prod.snd h)), if_pos rfl, stz (ptsQ_rng g ha hpm) hz hlt]
            exact (ht p hpm).2.1 hlt
          · have hq' : (y.id, q) ∈ nds d l y.id a := by
              rcases hqS with h | h
              · exact h
              · exact absurd (congrArg Prod.snd h) eq
            rw [if_neg (by rintro h; exact ep (congrArg Prod.snd h)), if_neg (by rintro h; exact eq (congrArg Prod.snd h))]
            exact h.pair y hy hy0 p q hp' hq' hlt
      · have np : ((y.id, p) : Key) ≠ (x.id, z) := fun e => hyx (congrArg Prod.fst e)
        have nq : ((y.id, q) : Key) ≠ (x.id, z) := fun e => hyx (congrArg Prod.fst e)
        rw [if_neg np, if_neg nq]
        exact h.pair y hy hy0 p q (hpS.resolve_right np) (hqS.resolve_right nq) hlt
    · obtain ⟨k1, k2, k3⟩ := snap_nds (id := x.id) (at_ := a) g hs
      have := h.snap s hs
      have e1 := agree _ k1
      have e2 := agree _ k2
      have e3 := agree _ k3
      rw [e1, e2, e3]; exact this
theorem nds_or {a z : Int} (hid : ∃ x ∈ d, x.id = id) {k : Key} (hk : k ∈ nds d l id z) : k ∈ nds d l id a ∨ k = (id, z) := by
  obtain ⟨h1, h2⟩ := mem_nds.1 hk
  rcases mem_ptsQ.1 h2 with h2 | ⟨e1, e2⟩
  · exact .inl (mem_nds.2 ⟨h1, mem_ptsQ.2 (.inl h2)⟩)
  · exact .inr (Prod.ext e1 e2)
theorem moved (hl : l.length ≤ 11) {a z : Int} (hA : (ofF d l id a).2 = 0) (hZ : (ofF d l id z).2 = 0) {T : Key → Int} (h : Sat d l (· ∈ nds d l id a) T) :
    ∃ u, (ofF d l id z).1.1 ≤ u ∧ u ≤ (ofF d l id z).1.2 ∧ ∀ ppm, (Ck.ppmF d id).1 = ppm → (a ≤ z → (Iv.stretchF (z - a) ppm).1.1 ≤ u - T (id, a) ∧ u - T (id, a) ≤ (Iv.stretchF (z - a) ppm).1.2) ∧ (z ≤ a → (Iv.stretchF (a - z) ppm).1.1 ≤ T (id, a) - u ∧ T (id, a) - u ≤ (Iv.stretchF (a - z) ppm).1.2) := by
  have A := of_ok hl hA
  have Z := of_ok hl hZ
  have g := good_of A.ck
  obtain ⟨T', s1, e1⟩ := ext_pt g A.ha Z.ha A.hid h
  have hz : Sat d l (· ∈ nds d l id z) T' := s1.mono (fun k hk => nds_or A.hid hk) (fun _ hs => hs)
  refine ⟨T' (id, z), Z.mn.1 T' hz, Z.mx.1 T' hz, fun ppm hppm => ?_⟩
  obtain ⟨x, hx, e⟩ := A.hid
  have hp : x.ppm = ppm := by rw [← e, ppm_of A.ck hx] at hppm; exact hppm
  subst hp
  have ea := e1 _ (key_in A.hid : (id, a) ∈ nds d l id a)
  rw [← ea, ← e]
  refine ⟨fun hle => pair_diff g s1 hx (.inr (by rw [e])) (.inl (by rw [e]; exact key_in ⟨x, hx, e⟩)) Z.ha A.ha hle, fun hle => pair_diff g s1 hx (.inl (by rw [e]; exact key_in ⟨x, hx, e⟩)) (.inr (by rw [e])) A.ha Z.ha hle⟩
theorem steps (hl : l.length ≤ 11) {a z : Int} (hle : a ≤ z) (hA : (ofF d l id a).2 = 0) (hZ : (ofF d l id z).2 = 0) :
    (ofF d l id a).1.1 ≤ (ofF d l id z).1.1 ∧ (ofF d l id a).1.2 ≤ (ofF d l id z).1.2 ∧ (ofF d l id z).1.1 - (ofF d l id a).1.1 ≤ (Iv.stretchF (z - a) (Ck.ppmF d id).1).1.2 ∧ (ofF d l id z).1.2 - (ofF d l id a).1.2 ≤ (Iv.stretchF (z - a) (Ck.ppmF d id).1).1.2 ∧ (Ck.ppmF d id).2 = true ∧ (Iv.stretchF (z - a) (Ck.ppmF d id).1).2 = true := by
  have A := of_ok hl hA
  have Z := of_ok hl hZ
  have g := good_of A.ck
  obtain ⟨x, hx, e⟩ := A.hid
  have hpp : Ck.ppmF d id = (x.ppm, true) := by rw [← e]; exact ppm_of A.ck hx
  have hp := g.ppm x hx
  have ra := A.ha
  have rz := Z.ha
  have hlo : 0 ≤ (Iv.stretchF (z - a) (Ck.ppmF d id).1).1.1 := by
    rw [hpp, stretch_is (by omega) hp]
    exact (lo_hi hp.1 hp.2 (by omega)).2.2
  obtain ⟨T1, s1, e1⟩ := A.mn.2
  obtain ⟨T2, s2, e2⟩ := A.mx.2
  obtain ⟨T3, s3, e3⟩ := Z.mn.2
  obtain ⟨T4, s4, e4⟩ := Z.mx.2
  obtain ⟨u1, a1, b1, c1⟩ := moved hl hA hZ s1
  obtain ⟨u2, a2, b2, c2⟩ := moved hl hA hZ s2
  obtain ⟨u3, a3, b3, c3⟩ := moved hl hZ hA s3
  obtain ⟨u4, a4, b4, c4⟩ := moved hl hZ hA s4
  have d1 := (c1 _ rfl).1 hle
  have d2 := (c2 _ rfl).1 hle
  have d3 := (c3 _ rfl).2 hle
  have d4 := (c4 _ rfl).2 hle
  refine ⟨by omega, by omega, by omega, by omega, by rw [hpp], ?_⟩
  rw [hpp]
  have hg : Iv.strGuard (z - a) x.ppm = false := by simp [Iv.strGuard]; omega
  rw [Iv.stretch_pos hg (by omega)]
/-! ### Times that satisfy all -/
theorem sound {p : List Key} {ts : List Int} (hl : l.length ≤ 10) (h : SatP d l p ts) : consF d l = true ∧ ∀ i, 1 ≤ i → i < p.length →
    Ck.linkedF d l p[i]!.1 = ((ofF d l p[i]!.1 p[i]!.2).2 == 0) ∧ (Ck.linkedF d l p[i]!.1 = true → Iv.withinB (ofF d l p[i]!.1 p[i]!.2).1 ts[i]! = true) := by
  have ck := h.pg.ck
  have g := good_of ck
  have hF : Feas (rEdges d l p) (fun v => ts[v.toNat]!) := fun e he => by
    have := h.edges e he
    show ts[e.v.toNat]! ≤ ts[e.u.toNat]! + e.w
    omega
  have hS := (rep_ref h.pg).read _ hF
  have hT : ∀ k : Key, (ts[(fnd p k).toNat]! - ts[(0 : Int).toNat]!) = ts[(fnd p k).toNat]! := fun k => by
    rw [show (0 : Int).toNat = 0 from rfl, h.zero]; omega
  have hkeys : ∀ s ∈ l, ((s.a, s.ata) ∈ p ∧ ((s.a, s.ata) : Key) ≠ (-1, 0)) ∧ ((s.b, s.lo) ∈ p ∧ ((s.b, s.lo) : Key) ≠ (-1, 0)) ∧ ((s.b, s.hi) ∈ p ∧ ((s.b, s.hi) : Key) ≠ (-1, 0)) := fun s hs => by
    obtain ⟨a1, a2, a3⟩ := h.pg.snap s hs
    obtain ⟨b1, b2, b3⟩ := h.pg.snap_ne hs
    exact ⟨⟨a1, b1⟩, ⟨a2, b2⟩, ⟨a3, b3⟩⟩
  have ptsIn : ∀ k : Key, (∃ x ∈ d, x.id = k.1) → k.2 ∈ Ck.pts l k.1 → k ∈ p ∧ k ≠ (-1, 0) := fun k hd hk => by
    obtain ⟨s, hs, hc⟩ := mem_raw.1 hk
    obtain ⟨q1, q2, q3⟩ := hkeys s hs
    obtain ⟨u, v⟩ := k
    rcases hc with ⟨e1, e2⟩ | ⟨e1, e2 | e2⟩ <;> (simp only at e1 e2; subst e1 e2)
    · exact q1
    · exact q2
    · exact q3
  refine ⟨?_, fun i h1 h2 => ?_⟩
  · unfold consF
    rw [show (Ck.checkF d l == 0) = true from by rw [ck]; rfl, Bool.true_and, cons_sat ck (by omega)]
    exact ⟨_, hS.mono (fun k hk => ptsIn k hk.1 hk.2) (fun _ hs => hs)⟩
  · have hq := h.pts i h1 h2
    have hm := bang_mem h2
    have hne := h.pg.ne0 h1 h2
    have hid := h.pg.dom _ hm hne
    have ha := hq.2.1
    have hSi : Sat d l (· ∈ nds d l p[i]!.1 p[i]!.2) _ := hS.mono (fun k hk => by
      obtain ⟨k1, k2⟩ := mem_nds.1 hk
      rcases mem_ptsQ.1 k2 with k2 | ⟨e1, e2⟩
      · exact ptsIn k k1 k2
      · have : k = p[i]! := Prod.ext e1 e2
        rw [this]; exact ⟨hm, hne⟩) (fun _ hs => hs)
    have hcon := (con_iff (id := p[i]!.1) ck (by omega) ha).2 ⟨_, hSi⟩
    rcases of_cases d l p[i]!.1 p[i]!.2 with ⟨c, _⟩ | ⟨_, c, _⟩ | ⟨_, _, c, _⟩ | ⟨_, _, _, c4, e⟩ | ⟨_, _, _, _, c5, _⟩ | ⟨_, _, _, c4, _, e⟩
    · exact absurd ck c
    · exact absurd hid c
    · exact absurd ha c
    · rw [c4, e]; exact ⟨rfl, fun q => by cases q⟩
    · rw [hcon] at c5; cases c5
    · have e2 : (ofF d l p[i]!.1 p[i]!.2).2 = 0 := by rw [e]
      have O := of_ok (by omega) e2
      refine ⟨by rw [c4, e2]; rfl, fun _ => ?_⟩
      have b1 := O.mn.1 _ hSi
      have b2 := O.mx.1 _ hSi
      rw [hT, show ((p[i]!.1, p[i]!.2) : Key) = p[i]! from rfl, h.pg.at_fnd h2, Int.toNat_natCast] at b1 b2
      have bb := O.bd (by omega)
      rw [Iv.within_iff, Iv.valid_iff]
      omega
end
end Bd
end Go.Proofs.Ytaglpampidlbmaa

namespace Go.Proofs.Ytaglpampidlbmaa
open Go Go.Eng
namespace Bd
def D2 : List Ck.Dom := [⟨0, 0⟩, ⟨1, 100⟩]
def S1 : List Ck.Snap := [⟨1, 1000, 0, 5000, 5010⟩]
def S2 : List Ck.Snap := ([] ++ S1) ++ [⟨1, 2000, 0, 5000, 5900⟩]
theorem aw1 : ofF D2 S1 1 1001000 = ((1004900, 1005110), 0) := by kernel_rfl
theorem aw2 : ofF D2 S1 1 0 = ((3999, 4011), 0) := by kernel_rfl
theorem aw3 : ofF D2 [] 0 7 = ((7, 7), 0) := by kernel_rfl
theorem aw4 : (ofF D2 [] 1 1000).2 = 12 := by kernel_rfl
theorem aw5 : (ofF D2 S2 0 7).2 = 12 := by kernel_rfl
theorem aw6 : manyE (ofF D2 S1 1) [1000, 0] = 0 := by kernel_rfl
theorem aw7 : manyL (ofF D2 S1 1) [1000, 0] = [(5000, 5010), (3999, 4011)] := by kernel_rfl
theorem aw8 : consF D2 S1 = true := by kernel_rfl
theorem aw9 : consF D2 S2 = false := by kernel_rfl
end Bd
end Go.Proofs.Ytaglpampidlbmaa

namespace Go.Proofs.Ytaglpampidlbmaa
open Go Go.Eng
namespace Bd
theorem kc_of : ∀ cs, okAll [.int .i64, .int .i64] cs → ∃ x, cs = kc x ∧ True := fun cs h => by
  obtain ⟨v0, v1, rfl, ⟨a, rfl, _⟩, ⟨b, rfl, _⟩⟩ := okAll_2 h
  exact ⟨(a, b), rfl, trivial⟩
theorem ic_of : ∀ cs, okAll [.int .i64] cs → ∃ x, cs = Ck.ic x ∧ True := fun cs h => by
  obtain ⟨v0, rfl, ⟨a, rfl, _⟩⟩ := okAll_1 h
  exact ⟨a, rfl, trivial⟩
theorem or_ck {x : Bool} {c : Int} (h : (x || !(c == 0)) = false) : c = 0 := by simp at h; exact h.2
section
variable {d : List Ck.Dom} {l : List Ck.Snap} {id at_ : Int}
theorem many_dead {ats : List Int} {i n : Nat} (hl : l.length ≤ 11) (hi : i < ats.length) (hx : (ofF d l id ats[i]!).2 = 0) (hn : (manyL (ofF d l id) ats).length = n)
    (h : (((manyE (ofF d l id) ats == 0) && (decide ((n : Int) ≤ (i : Int)) || !(((manyL (ofF d l id) ats)[i]!.1 == (ofF d l id ats[i]!).1.1) && ((manyL (ofF d l id) ats)[i]!.2 == (ofF d l id ats[i]!).1.2)))) ||
      ((id == 0) && !(((ofF d l id ats[i]!).1.1 == ats[i]!) && ((ofF d l id ats[i]!).1.2 == ats[i]!)))) = true) : False := by
  rcases (Bool.or_eq_true _ _).mp h with h | h
  · obtain ⟨h1, h2⟩ := (Bool.and_eq_true _ _).mp h
    have hz : manyE (ofF d l id) ats = 0 := by simpa using h1
    have e : manyL (ofF d l id) ats = ats.map fun x => (ofF d l id x).1 := by unfold manyL; rw [hz]; rfl
    rw [e, List.length_map] at hn
    have hg : (manyL (ofF d l id) ats)[i]! = (ofF d l id ats[i]!).1 := by
      rw [e, getElem!_pos (ats.map _) i (by simpa using hi), List.getElem_map, getElem!_pos ats i hi]
    rcases (Bool.or_eq_true _ _).mp h2 with h2 | h2
    · have := of_decide_eq_true h2; omega
    · rw [hg] at h2; simp at h2
  · obtain ⟨h1, h2⟩ := (Bool.and_eq_true _ _).mp h
    have hz : id = 0 := by simpa using h1
    subst hz
    rw [of_ref hl hx] at h2
    simp at h2
theorem many_nil {f : Int → (Int × Int) × Int} {ats : List Int} {n : Nat} (h : manyE f ats ≠ 0) (hn : (manyL f ats).length = n) : ((n : Int) == 0) = true := by
  unfold manyL at hn
  rw [if_neg (by simpa using h)] at hn
  subst hn; rfl
theorem many_len {f : Int → (Int × Int) × Int} {ats : List Int} {n k : Nat} (h : manyE f ats = 0) (hn : (manyL f ats).length = n) (hk : ats.length = k) : ((n : Int) == (k : Int)) = true := by
  unfold manyL at hn
  rw [h, if_pos (by decide), List.length_map] at hn
  simp; omega
theorem reach_dead (hl : l.length ≤ 10) (h0 : (id == 0) = false) (h : (ofF d l id at_).2 = 0) {i : Nat} (hi : i < 4) {t : Int} (ht : t = [(ofF d l id at_).1.1 - 1, (ofF d l id at_).1.1, (ofF d l id at_).1.2, (ofF d l id at_).1.2 + 1][i]!) (hr : (decide (0 ≤ t) && decide (t ≤ 1000000000000)) = true)
    (hd : (!(consF d (([] ++ l) ++ [⟨id, at_, 0, t, t⟩]) == (((i : Int) == 1) || ((i : Int) == 2)))) = true) : False := by
  obtain ⟨h1, h2⟩ := (Bool.and_eq_true _ _).mp hr
  have h1 := of_decide_eq_true h1
  have h2 := of_decide_eq_true h2
  have A := (of_ok (by omega) h).bd (by omega)
  have hne : id ≠ 0 := by simpa using h0
  have key := reached hl hne h (t := t) ⟨h1, h2⟩
  rcases i with _ | _ | _ | _ | i
  · have e : t = (ofF d l id at_).1.1 - 1 := ht
    rw [key (.inl e), decide_eq_false (by omega)] at hd
    simp at hd
  · have e : t = (ofF d l id at_).1.1 := ht
    rw [key (.inr (.inl e)), decide_eq_true (by omega)] at hd
    simp at hd
  · have e : t = (ofF d l id at_).1.2 := ht
    rw [key (.inr (.inr (.inl e))), decide_eq_true (by omega)] at hd
    simp at hd
  · have e : t = (ofF d l id at_).1.2 + 1 := ht
    rw [key (.inr (.inr (.inr e))), decide_eq_false (by omega)] at hd
    simp at hd
  · omega
theorem sound_dead {p : List Key} {ts : List Int} (hl : l.length ≤ 10) (h : SatP d l p ts) {i : Nat} (h1 : 1 ≤ i) (h2 : i < p.length)
    (hd : ((!(Ck.linkedF d l p[i]!.1 == ((ofF d l p[i]!.1 p[i]!.2).2 == 0))) || (Ck.linkedF d l p[i]!.1 && !(Iv.withinB ((ofF d l p[i]!.1 p[i]!.2).1.1, (ofF d l p[i]!.1 p[i]!.2).1.2) ts[i]!))) = true) : False := by
  obtain ⟨e1, e2⟩ := (sound hl h).2 i h1 h2
  rcases (Bool.or_eq_true _ _).mp hd with q | q
  · rw [e1] at q; simp at q
  · obtain ⟨q1, q2⟩ := (Bool.and_eq_true _ _).mp q
    rw [show ((ofF d l p[i]!.1 p[i]!.2).1.1, (ofF d l p[i]!.1 p[i]!.2).1.2) = (ofF d l p[i]!.1 p[i]!.2).1 from rfl, e2 q1] at q2
    cases q2
end
end Bd
end Go.Proofs.Ytaglpampidlbmaa
