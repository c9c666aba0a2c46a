/- The reference's graph stands for the constraints, in plain terms. Conditions: none.
   Lengths and bounds of repeated rounds, in plain terms. Conditions: none.
   Times of points that satisfy all constraints, in plain terms. Conditions: none. -/
import Derived.Test.YtaglpampidlbmaaBdRS
import Derived.Test.YtaglpampidlbmaaBdM1
namespace Go.Proofs.Ytaglpampidlbmaa
open Go Go.Eng
namespace Bd
section
variable {d : List Ck.Dom} {l : List Ck.Snap}
theorem check_nil (h : Ck.checkF d l = 0) : Ck.checkF d [] = 0 := by
  obtain ⟨h1, h2, h3, h4, h5, h6⟩ := Ck.check_ok h
  unfold Ck.checkF at h ⊢
  rw [if_neg h1, if_neg (by omega)] at h
  rw [if_neg h1, if_neg (by simp; omega)]
  split at h
  · rename_i hc
    rw [if_pos hc, if_pos (by rw [h5]; rfl)]; rfl
  · cases h
theorem ppm_of (h : Ck.checkF d l = 0) {x : Ck.Dom} (hx : x ∈ d) : Ck.ppmF d x.id = (x.ppm, true) := by
  obtain ⟨i, hi, rfl⟩ := bang_of hx
  exact Ck.ppm_at (check_nil h) hi
theorem ppm_snd (h : Ck.checkF d l = 0) (id : Int) : (Ck.ppmF d id).2 = decide (0 ≤ Ck.idx d id 0) := by
  unfold Ck.ppmF
  rw [check_nil h]
  by_cases hi : 0 ≤ Ck.idx d id 0
  · simp [hi]
  · simp [hi]
/-! ### Points -/
theorem mem_addK {o : List Key} {p k : Key} : k ∈ addK o p ↔ k ∈ o ∨ k = p := by
  unfold addK
  split
  · simp
  · rename_i h
    have : p ∈ o := Classical.not_not.1 fun q => h (fnd_neg.2 q)
    constructor
    · exact .inl
    · rintro (h | rfl)
      · exact h
      · exact this
theorem nd_addK {o : List Key} {p : Key} (h : o.Nodup) : (addK o p).Nodup := by
  unfold addK
  split
  · rename_i hn
    have := fnd_neg.1 hn
    rw [List.nodup_append]
    refine ⟨h, by simp, fun a ha b hb => ?_⟩
    have : b = p := by simpa using hb
    subst this; rintro rfl; contradiction
  · exact h
theorem fold_addK : ∀ (m o : List Key), o.Nodup → (m.foldl addK o).Nodup ∧ (∀ k, k ∈ m.foldl addK o ↔ k ∈ o ∨ k ∈ m) ∧ ∃ b, m.foldl addK o = o ++ b
  | [], o, h => ⟨h, by simp, [], by simp⟩
  | p :: r, o, h => by
    obtain ⟨h1, h2, b, h3⟩ := fold_addK r (addK o p) (nd_addK h)
    refine ⟨h1, fun k => ?_, ?_⟩
    · rw [List.foldl_cons, h2, mem_addK, List.mem_cons]
      constructor
      · rintro ((h | h) | h)
        · exact .inl h
        · exact .inr (.inl h)
        · exact .inr (.inr h)
      · rintro (h | h | h)
        · exact .inl (.inl h)
        · exact .inl (.inr h)
        · exact .inr h
    · rw [List.foldl_cons, h3]
      unfold addK
      split
      · exact ⟨[p] ++ b, by simp⟩
      · exact ⟨b, rfl⟩
theorem mem_domK {x : Ck.Dom} {k : Key} : k ∈ domK l x ↔ k.1 = x.id ∧ k.2 ∈ Ck.pts l x.id := by
  unfold domK
  rw [List.mem_map]
  constructor
  · rintro ⟨q, hq, rfl⟩; exact ⟨rfl, hq⟩
  · rintro ⟨h1, h2⟩; exact ⟨k.2, h2, Prod.ext h1.symm rfl⟩
theorem mem_base {k : Key} : k ∈ rpN d l d.length ↔ k = (-1, 0) ∨ ((∃ x ∈ d, x.id = k.1) ∧ k.2 ∈ Ck.pts l k.1) := by
  unfold rpN
  rw [List.take_length, List.mem_cons, List.mem_flatMap]
  refine or_congr_right ⟨?_, ?_⟩
  · rintro ⟨x, hx, hk⟩
    obtain ⟨h1, h2⟩ := mem_domK.1 hk
    exact ⟨⟨x, hx, h1.symm⟩, by rw [h1]; exact h2⟩
  · rintro ⟨⟨x, hx, e⟩, h⟩
    exact ⟨x, hx, mem_domK.2 ⟨e.symm, by rw [e]; exact h⟩⟩
theorem nodup_flat {α β : Type} {f : α → List β} {g : β → Int} {h : α → Int} : ∀ {l : List α}, (l.map h).Nodup → (∀ x ∈ l, (f x).Nodup) → (∀ x ∈ l, ∀ y ∈ f x, g y = h x) → (l.flatMap f).Nodup
  | [], _, _, _ => by simp
  | x :: r, hn, hf, hg => by
    rw [List.map_cons, List.nodup_cons] at hn
    rw [List.flatMap_cons, List.nodup_append]
    refine ⟨hf x (by simp), nodup_flat hn.2 (fun y hy => hf y (by simp [hy])) (fun y hy => hg y (by simp [hy])), fun a ha b hb => ?_⟩
    rintro rfl
    obtain ⟨y, hy, hb⟩ := List.mem_flatMap.1 hb
    have e1 := hg x (by simp) a ha
    have e2 := hg y (by simp [hy]) a hb
    exact hn.1 (List.mem_map.2 ⟨y, hy, by rw [← e1, ← e2]⟩)
theorem base_nodup (g : Good d l) (hneg : ∀ x ∈ d, 0 ≤ x.id) : (rpN d l d.length).Nodup := by
  unfold rpN
  rw [List.take_length, List.nodup_cons]
  refine ⟨fun hm => ?_, nodup_flat (g := fun k : Key => k.1) (h := fun x : Ck.Dom => x.id) g.nd (fun x _ => ?_) (fun x _ y hy => (mem_domK.1 hy).1)⟩
  · obtain ⟨x, hx, hk⟩ := List.mem_flatMap.1 hm
    have := (mem_domK.1 hk).1
    have := hneg x hx
    dsimp only at *
    omega
  · unfold domK
    have hps : (Ck.pts l x.id).Nodup := by
      rw [List.nodup_iff_pairwise_ne]
      exact (inc_pts' (l := l) (x := x.id)).imp fun hab => by omega
    rw [List.nodup_iff_pairwise_ne, List.pairwise_map]
    rw [List.nodup_iff_pairwise_ne] at hps
    exact hps.imp fun hab e => hab (congrArg Prod.snd e)
theorem ids_nonneg (h : Ck.checkF d l = 0) : ∀ x ∈ d, 0 ≤ x.id := fun x hx => by
  obtain ⟨_, _, _, _, h5, _⟩ := Ck.check_ok h
  have := bad_no d 0 h5 x hx
  simp [Ck.badDom] at this
  omega
theorem nodup_le : ∀ (o e : List Key), o.Nodup → (∀ q ∈ o, q ∈ e) → o.length ≤ e.length
  | [], e, _, _ => by simp
  | x :: o, e, hn, h => by
    have hn' := List.nodup_cons.1 hn
    have hq := h x (by simp)
    have := nodup_le o (e.erase x) hn'.2 fun y hy => by
      refine (List.mem_erase_of_ne ?_).2 (h y (List.mem_cons_of_mem _ hy))
      rintro rfl; exact hn'.1 hy
    rw [List.length_erase_of_mem hq] at this
    have := List.length_pos_of_mem hq
    simp only [List.length_cons]; omega
theorem base_len (g : Good d l) (hneg : ∀ x ∈ d, 0 ≤ x.id) : (rpN d l d.length).length ≤ 3 * l.length + 1 := by
  have key : (rpN d l d.length).length ≤ ((-1, 0) :: l.flatMap fun s => [(s.a, s.ata), (s.b, s.lo), (s.b, s.hi)] : List Key).length := by
    refine nodup_le _ _ (base_nodup g hneg) fun k hk => ?_
    rcases mem_base.1 hk with rfl | ⟨_, hk⟩
    · simp
    · obtain ⟨s, hs, hc⟩ := mem_raw.1 hk
      refine List.mem_cons_of_mem _ (List.mem_flatMap.2 ⟨s, hs, ?_⟩)
      obtain ⟨k1, k2⟩ := k
      rcases hc with ⟨e1, e2⟩ | ⟨e1, e2 | e2⟩ <;> (simp only at e1 e2; subst e1 e2; simp)
  have h2 : (l.flatMap fun s => ([(s.a, s.ata), (s.b, s.lo), (s.b, s.hi)] : List Key)).length ≤ l.length * 3 := flat_len _ fun s _ => by simp
  rw [List.length_cons] at key
  omega
/-- What a list of points must have for the edges. -/
structure PG (d : List Ck.Dom) (l : List Ck.Snap) (p : List Key) : Prop where
  ck : Ck.checkF d l = 0
  pos : 0 < p.length
  head : p[0]! = (-1, 0)
  nd : p.Nodup
  dom : ∀ k ∈ p, k ≠ (-1, 0) → ∃ x ∈ d, x.id = k.1
  rng : ∀ k ∈ p, 0 ≤ k.2 ∧ k.2 ≤ 1000000000000
  snap : ∀ s ∈ l, (s.a, s.ata) ∈ p ∧ (s.b, s.lo) ∈ p ∧ (s.b, s.hi) ∈ p
theorem rpts_mem (g : Good d l) (hneg : ∀ x ∈ d, 0 ≤ x.id) {m : List Key} {k : Key} : k ∈ rpts d l m ↔ k = (-1, 0) ∨ ((∃ x ∈ d, x.id = k.1) ∧ k.2 ∈ Ck.pts l k.1) ∨ k ∈ m := by
  unfold rpts
  rw [(fold_addK m _ (base_nodup g hneg)).2.1, mem_base, or_assoc]
theorem rpts_pg (h : Ck.checkF d l = 0) {m : List Key} (hm : ∀ k ∈ m, (∃ x ∈ d, x.id = k.1) ∧ 0 ≤ k.2 ∧ k.2 ≤ 1000000000000) : PG d l (rpts d l m) := by
  have g := good_of h
  have hneg := ids_nonneg h
  obtain ⟨f1, f2, b, f3⟩ := fold_addK m _ (base_nodup g hneg)
  have hcons : rpts d l m = (-1, 0) :: ((d.take d.length).flatMap (domK l) ++ b) := by
    show m.foldl addK (rpN d l d.length) = _
    rw [f3]; rfl
  refine ⟨h, by rw [hcons]; simp, by rw [hcons]; rfl, f1, fun k hk hne => ?_, fun k hk => ?_, fun s hs => ?_⟩
  · rcases (rpts_mem g hneg).1 hk with e | ⟨hx, _⟩ | hk
    · exact absurd e hne
    · exact hx
    · exact (hm k hk).1
  · rcases (rpts_mem g hneg).1 hk with rfl | ⟨_, hk⟩ | hk
    · exact ⟨Int.le_refl _, by decide⟩
    · exact pts_rng g hk
    · exact (hm k hk).2
  · obtain ⟨h1, h2, _⟩ := g.snap s hs
    exact ⟨(rpts_mem g hneg).2 (.inr (.inl ⟨h1, mem_raw.2 ⟨s, hs, .inl ⟨rfl, rfl⟩⟩⟩)), (rpts_mem g hneg).2 (.inr (.inl ⟨h2, mem_raw.2 ⟨s, hs, .inr ⟨rfl, .inl rfl⟩⟩⟩)), (rpts_mem g hneg).2 (.inr (.inl ⟨h2, mem_raw.2 ⟨s, hs, .inr ⟨rfl, .inr rfl⟩⟩⟩))⟩
theorem rpts_small (h : Ck.checkF d l = 0) {m : List Key} : (rpts d l m).length ≤ 3 * l.length + 1 + m.length := by
  have := base_len (good_of h) (ids_nonneg h)
  have := fold_add_len m (rpN d l d.length)
  unfold rpts; omega
/-! ### Edges -/
theorem mem_redges {p : List Key} {e : Ed} : e ∈ rEdges d l p ↔ (∃ i, 1 ≤ i ∧ i < p.length ∧ (e ∈ rHead p i ∨ ∃ k, 1 ≤ k ∧ k < p.length ∧ e ∈ rPair d p i k)) ∨ ∃ s ∈ l, e ∈ rSnap p s := by
  unfold rEdges rRows rRow
  rw [List.mem_append, List.mem_flatMap, List.mem_flatMap]
  refine or_congr_left ⟨?_, ?_⟩
  · rintro ⟨i, hi, he⟩
    rw [List.mem_range'_1] at hi
    refine ⟨i, hi.1, by omega, ?_⟩
    rcases List.mem_append.1 he with he | he
    · exact .inl he
    · obtain ⟨k, hk, he⟩ := List.mem_flatMap.1 he
      rw [List.mem_range'_1] at hk
      exact .inr ⟨k, hk.1, by omega, he⟩
  · rintro ⟨i, h1, h2, he⟩
    refine ⟨i, List.mem_range'_1.2 ⟨h1, by omega⟩, ?_⟩
    rcases he with he | ⟨k, k1, k2, he⟩
    · exact List.mem_append_left _ he
    · exact List.mem_append_right _ (List.mem_flatMap.2 ⟨k, List.mem_range'_1.2 ⟨k1, by omega⟩, he⟩)
theorem mem_rHead {p : List Key} {i : Nat} {e : Ed} : e ∈ rHead p i ↔ p[i]!.1 = 0 ∧ (e = ⟨0, i, p[i]!.2⟩ ∨ e = ⟨i, 0, -p[i]!.2⟩) := by
  unfold rHead
  by_cases h : p[i]!.1 = 0
  · rw [if_pos (by simpa using h)]
    simp only [List.mem_cons, List.not_mem_nil, or_false]
    exact ⟨fun q => ⟨h, q⟩, fun q => q.2⟩
  · rw [if_neg (by simpa using h)]
    exact ⟨fun q => (by cases q), fun q => absurd q.1 h⟩
theorem mem_rPair {p : List Key} {i k : Nat} {e : Ed} : e ∈ rPair d p i k ↔ (k ≠ i ∧ p[k]!.1 = p[i]!.1 ∧ p[i]!.2 ≤ p[k]!.2) ∧ (e = ⟨i, k, (Iv.stretchF (p[k]!.2 - p[i]!.2) (Ck.ppmF d p[i]!.1).1).1.2⟩ ∨ e = ⟨k, i, -(Iv.stretchF (p[k]!.2 - p[i]!.2) (Ck.ppmF d p[i]!.1).1).1.1⟩) := by
  unfold rPair
  have hc : (((!((k : Int) == (i : Int))) && (p[k]!.1 == p[i]!.1)) && decide (p[i]!.2 ≤ p[k]!.2)) = true ↔ (k ≠ i ∧ p[k]!.1 = p[i]!.1 ∧ p[i]!.2 ≤ p[k]!.2) := by
    simp only [Bool.and_eq_true, Bool.not_eq_true', beq_eq_false_iff_ne, beq_iff_eq, decide_eq_true_eq, and_assoc]
    refine and_congr_left fun _ => ?_
    omega
  by_cases h : (((!((k : Int) == (i : Int))) && (p[k]!.1 == p[i]!.1)) && decide (p[i]!.2 ≤ p[k]!.2)) = true
  · rw [if_pos h]
    simp only [List.mem_cons, List.not_mem_nil, or_false]
    exact ⟨fun q => ⟨hc.1 h, q⟩, fun q => q.2⟩
  · rw [if_neg h]
    have : ¬ (k ≠ i ∧ p[k]!.1 = p[i]!.1 ∧ p[i]!.2 ≤ p[k]!.2) := fun q => h (hc.2 q)
    constructor
    · intro q; cases q
    · intro q; exact absurd q.1 this
section
variable {p : List Key}
theorem PG.bang {p : List Key} (g : PG d l p) {i j : Nat} (hi : i < p.length) (hj : j < p.length) (e : p[i]! = p[j]!) : i = j := by
  rw [getElem!_pos p i hi, getElem!_pos p j hj] at e
  exact (List.getElem_inj g.nd).1 e
theorem PG.ne0 (g : PG d l p) {i : Nat} (h1 : 1 ≤ i) (hi : i < p.length) : p[i]! ≠ (-1, 0) := fun e => by
  have := g.bang hi g.pos (by rw [e, g.head])
  omega
theorem PG.at_fnd (g : PG d l p) {i : Nat} (hi : i < p.length) : fnd p p[i]! = i := by
  have hm := bang_mem hi
  have h1 := fnd_rng hm
  have := g.bang (i := (fnd p p[i]!).toNat) (j := i) (by omega) hi (fnd_at hm)
  omega
theorem PG.fnd_pos (g : PG d l p) {k : Key} (hk : k ∈ p) (hne : k ≠ (-1, 0)) : 1 ≤ fnd p k := by
  have h1 := fnd_rng hk
  have h2 := fnd_at hk
  rcases Int.lt_or_le (fnd p k) 1 with h | h
  · rw [show (fnd p k).toNat = 0 by omega, g.head] at h2
    exact absurd h2.symm hne
  · exact h
theorem PG.snap_ne (g : PG d l p) {s : Ck.Snap} (hs : s ∈ l) : (s.a, s.ata) ≠ (-1, 0) ∧ (s.b, s.lo) ≠ (-1, 0) ∧ (s.b, s.hi) ≠ (-1, 0) := by
  obtain ⟨⟨x, hx, e1⟩, ⟨y, hy, e2⟩, _⟩ := (good_of g.ck).snap s hs
  have h1 := ids_nonneg g.ck x hx
  have h2 := ids_nonneg g.ck y hy
  refine ⟨fun e => ?_, fun e => ?_, fun e => ?_⟩ <;> (have := congrArg Prod.fst e; dsimp only at this; omega)
theorem reok (g : PG d l p) : ∀ e ∈ rEdges d l p, EdOK p.length Wm e := by
  intro e he
  have hW : Wm = 1010000000000 := rfl
  have h0 : (0 : Int) < (p.length : Int) := by have := g.pos; omega
  rcases mem_redges.1 he with ⟨i, h1, h2, he | ⟨k, k1, k2, he⟩⟩ | ⟨s, hs, he⟩
  · obtain ⟨_, he⟩ := mem_rHead.1 he
    have hr := g.rng _ (bang_mem h2)
    rcases he with rfl | rfl
    · exact ⟨Int.le_refl _, h0, by dsimp only; omega, by dsimp only; omega, by dsimp only; omega, by dsimp only; omega⟩
    · exact ⟨by dsimp only; omega, by dsimp only; omega, Int.le_refl _, h0, by dsimp only; omega, by dsimp only; omega⟩
  · obtain ⟨_, he⟩ := mem_rPair.1 he
    have hb := str_W (p[k]!.2 - p[i]!.2) (Ck.ppmF d p[i]!.1).1
    rcases he with rfl | rfl
    · exact ⟨by dsimp only; omega, by dsimp only; omega, by dsimp only; omega, by dsimp only; omega, hb.2.1, hb.2.2⟩
    · exact ⟨by dsimp only; omega, by dsimp only; omega, by dsimp only; omega, by dsimp only; omega, by dsimp only; omega, by dsimp only; omega⟩
  · obtain ⟨s1, s2, s3⟩ := g.snap s hs
    have r1 := fnd_rng s1
    have r2 := fnd_rng s2
    have r3 := fnd_rng s3
    unfold rSnap at he
    rcases List.mem_cons.1 he with rfl | he
    · exact ⟨r1.1, r1.2, r2.1, r2.2, by dsimp only; omega, by dsimp only; omega⟩
    · have : e = ⟨fnd p (s.b, s.hi), fnd p (s.a, s.ata), 0⟩ := by simpa using he
      subst this
      exact ⟨r3.1, r3.2, r1.1, r1.2, by dsimp only; omega, by dsimp only; omega⟩
theorem stretch0 {a : Int} (ha : 0 ≤ a ∧ a ≤ 1000000000000) : (Iv.stretchF a 0).1 = (a, a) := by
  rw [stretch_is ha (by omega)]
  unfold sLo sHi
  congr 1 <;> omega
theorem rep_ref (g : PG d l p) : Rep d l (fun k => k ∈ p ∧ k ≠ (-1, 0)) (fnd p) p.length (rEdges d l p) := by
  have G := good_of g.ck
  have pp : ∀ {i : Nat}, 1 ≤ i → i < p.length → ∃ x ∈ d, x.id = p[i]!.1 ∧ (Ck.ppmF d p[i]!.1).1 = x.ppm := fun {i} h1 h2 => by
    obtain ⟨x, hx, e⟩ := g.dom _ (bang_mem h2) (g.ne0 h1 h2)
    exact ⟨x, hx, e, by rw [← e, ppm_of g.ck hx]⟩
  refine ⟨fun k hk => fnd_rng hk.1, fun T hT => ?_, fun t ht => ?_, fun k hk hr => ?_⟩
  · have tk : ∀ k, k ∈ p ∧ k ≠ (-1, 0) → (if fnd p k = 0 then 0 else T p[(fnd p k).toNat]!) = T k := fun k hk => by
      have := g.fnd_pos hk.1 hk.2
      rw [if_neg (by omega), fnd_at hk.1]
    have ti : ∀ i : Nat, 1 ≤ i → i < p.length → (if (i : Int) = 0 then 0 else T p[((i : Int)).toNat]!) = T p[i]! := fun i h1 h2 => by
      rw [if_neg (by omega), Int.toNat_natCast]
    refine ⟨fun v => if v = 0 then 0 else T p[v.toNat]!, if_pos rfl, tk, fun e he => ?_⟩
    rcases mem_redges.1 he with ⟨i, h1, h2, he | ⟨k, k1, k2, he⟩⟩ | ⟨s, hs, he⟩
    · obtain ⟨hz, he⟩ := mem_rHead.1 he
      have e1 : p[i]! = (0, p[i]!.2) := Prod.ext hz rfl
      have hT0 := hT.zero p[i]!.2 (by rw [← e1]; exact ⟨bang_mem h2, g.ne0 h1 h2⟩)
      rw [← e1] at hT0
      have := ti i h1 h2
      rcases he with rfl | rfl
      · dsimp only; rw [this, if_pos rfl, hT0]; omega
      · dsimp only; rw [this, if_pos rfl, hT0]; omega
    · obtain ⟨⟨hki, hd1, hle⟩, he⟩ := mem_rPair.1 he
      obtain ⟨x, hx, ex, epp⟩ := pp h1 h2
      have e1 : p[i]! = (x.id, p[i]!.2) := Prod.ext ex.symm rfl
      have e2 : p[k]! = (x.id, p[k]!.2) := Prod.ext (hd1.trans ex.symm) rfl
      have hlt : p[i]!.2 < p[k]!.2 := by
        rcases Int.lt_or_eq_of_le hle with h | h
        · exact h
        · exact absurd (g.bang k2 h2 (by rw [e1, e2, h])) hki
      have Si : (x.id, p[i]!.2) ∈ p ∧ (x.id, p[i]!.2) ≠ (-1, 0) := by rw [← e1]; exact ⟨bang_mem h2, g.ne0 h1 h2⟩
      have Sk : (x.id, p[k]!.2) ∈ p ∧ (x.id, p[k]!.2) ≠ (-1, 0) := by rw [← e2]; exact ⟨bang_mem k2, g.ne0 k1 k2⟩
      have t1 := ti i h1 h2
      have t2 := ti k k1 k2
      rw [epp] at he
      have hc : (Iv.stretchF (p[k]!.2 - p[i]!.2) x.ppm).1.1 ≤ T p[k]! - T p[i]! ∧ T p[k]! - T p[i]! ≤ (Iv.stretchF (p[k]!.2 - p[i]!.2) x.ppm).1.2 := by
        by_cases h0 : x.id = 0
        · have i1 : p[i]! = (0, p[i]!.2) := Prod.ext (ex.symm.trans h0) rfl
          have i2 : p[k]! = (0, p[k]!.2) := Prod.ext ((hd1.trans ex.symm).trans h0) rfl
          have z1 := hT.zero p[i]!.2 (by rw [← i1]; exact ⟨bang_mem h2, g.ne0 h1 h2⟩)
          have z2 := hT.zero p[k]!.2 (by rw [← i2]; exact ⟨bang_mem k2, g.ne0 k1 k2⟩)
          rw [← i1] at z1
          rw [← i2] at z2
          have r1 := g.rng _ (bang_mem h2)
          have r2 := g.rng _ (bang_mem k2)
          rw [G.still x hx h0, stretch0 (by omega), z1, z2]
          exact ⟨Int.le_refl _, Int.le_refl _⟩
        · have := hT.pair x hx h0 p[k]!.2 p[i]!.2 Sk Si hlt
          rw [← e1, ← e2] at this
          exact this
      rcases he with rfl | rfl
      · dsimp only; rw [t1, t2]; omega
      · dsimp only; rw [t1, t2]; omega
    · obtain ⟨s1, s2, s3⟩ := g.snap s hs
      obtain ⟨n1, n2, n3⟩ := g.snap_ne hs
      have hz := hT.snap s hs
      unfold rSnap at he
      rcases List.mem_cons.1 he with rfl | he
      · dsimp only; rw [tk _ ⟨s1, n1⟩, tk _ ⟨s2, n2⟩]; omega
      · have : e = ⟨fnd p (s.b, s.hi), fnd p (s.a, s.ata), 0⟩ := by simpa using he
        subst this
        dsimp only; rw [tk _ ⟨s1, n1⟩, tk _ ⟨s3, n3⟩]; omega
  · refine ⟨fun q hq => ?_, fun x hx h0 a b ha hb hlt => ?_, fun s hs => ?_⟩
    · have f1 := g.fnd_pos hq.1 hq.2
      have f2 := fnd_rng hq.1
      have f3 := fnd_at hq.1
      have h1 := ht _ (mem_redges.2 (.inl ⟨(fnd p (0, q)).toNat, by omega, by omega, .inl (mem_rHead.2 ⟨by rw [f3], .inl rfl⟩)⟩))
      have h2 := ht _ (mem_redges.2 (.inl ⟨(fnd p (0, q)).toNat, by omega, by omega, .inl (mem_rHead.2 ⟨by rw [f3], .inr rfl⟩)⟩))
      rw [f3, Int.toNat_of_nonneg (by omega)] at h1 h2
      dsimp only at h1 h2 ⊢
      omega
    · have f1 := g.fnd_pos ha.1 ha.2
      have f2 := fnd_rng ha.1
      have f3 := fnd_at ha.1
      have q1 := g.fnd_pos hb.1 hb.2
      have q2 := fnd_rng hb.1
      have q3 := fnd_at hb.1
      have hne : (fnd p (x.id, a)).toNat ≠ (fnd p (x.id, b)).toNat := fun e => by
        rw [e, q3] at f3
        have := congrArg Prod.snd f3
        dsimp only at this; omega
      have hpp : (Ck.ppmF d p[(fnd p (x.id, b)).toNat]!.1).1 = x.ppm := by rw [q3, ppm_of g.ck hx]
      have hcond : (fnd p (x.id, a)).toNat ≠ (fnd p (x.id, b)).toNat ∧ p[(fnd p (x.id, a)).toNat]!.1 = p[(fnd p (x.id, b)).toNat]!.1 ∧ p[(fnd p (x.id, b)).toNat]!.2 ≤ p[(fnd p (x.id, a)).toNat]!.2 := by
        rw [f3, q3]
        exact ⟨hne, rfl, by dsimp only; omega⟩
      have h1 := ht _ (mem_redges.2 (.inl ⟨(fnd p (x.id, b)).toNat, by omega, by omega, .inr ⟨(fnd p (x.id, a)).toNat, by omega, by omega, mem_rPair.2 ⟨hcond, .inl rfl⟩⟩⟩))
      have h2 := ht _ (mem_redges.2 (.inl ⟨(fnd p (x.id, b)).toNat, by omega, by omega, .inr ⟨(fnd p (x.id, a)).toNat, by omega, by omega, mem_rPair.2 ⟨hcond, .inr rfl⟩⟩⟩))
      rw [hpp, f3, q3, Int.toNat_of_nonneg (by omega), Int.toNat_of_nonneg (by omega)] at h1 h2
      dsimp only at h1 h2 ⊢
      omega
    · have h1 := ht _ (mem_redges.2 (.inr ⟨s, hs, show (⟨fnd p (s.a, s.ata), fnd p (s.b, s.lo), 0⟩ : Ed) ∈ rSnap p s by simp [rSnap]⟩))
      have h2 := ht _ (mem_redges.2 (.inr ⟨s, hs, show (⟨fnd p (s.b, s.hi), fnd p (s.a, s.ata), 0⟩ : Ed) ∈ rSnap p s by simp [rSnap]⟩))
      dsimp only at h1 h2 ⊢
      omega
  · refine links (S := fun k => k ∈ p ∧ k ≠ (-1, 0)) (f := fnd p) (l := l) (fun q hq => ?_) (fun i a b h0 ha hb => ?_) (fun s hs => ?_) hr k.2 hk
    · have f1 := g.fnd_pos hq.1 hq.2
      have f2 := fnd_rng hq.1
      have f3 := fnd_at hq.1
      have h1 := Conn.one _ (mem_redges.2 (.inl ⟨(fnd p (0, q)).toNat, by omega, by omega, .inl (mem_rHead.2 ⟨by rw [f3], .inl rfl⟩)⟩) : _ ∈ rEdges d l p)
      have h2 := Conn.one _ (mem_redges.2 (.inl ⟨(fnd p (0, q)).toNat, by omega, by omega, .inl (mem_rHead.2 ⟨by rw [f3], .inr rfl⟩)⟩) : _ ∈ rEdges d l p)
      rw [Int.toNat_of_nonneg (by omega)] at h1 h2
      exact ⟨h1, h2⟩
    · have f1 := g.fnd_pos ha.1 ha.2
      have f2 := fnd_rng ha.1
      have f3 := fnd_at ha.1
      have q1 := g.fnd_pos hb.1 hb.2
      have q2 := fnd_rng hb.1
      have q3 := fnd_at hb.1
      have main : ∀ {u v : Int}, (i, u) ∈ p → (i, v) ∈ p → 1 ≤ fnd p (i, u) → 1 ≤ fnd p (i, v) → u < v → Conn (rEdges d l p) (fnd p (i, u)) (fnd p (i, v)) ∧ Conn (rEdges d l p) (fnd p (i, v)) (fnd p (i, u)) := by
        intro u v hu hv pu pv hlt
        have f2 := fnd_rng hu
        have f3 := fnd_at hu
        have q2 := fnd_rng hv
        have q3 := fnd_at hv
        have hne : (fnd p (i, v)).toNat ≠ (fnd p (i, u)).toNat := fun e => by
          rw [e, f3] at q3
          have := congrArg Prod.snd q3
          dsimp only at this; omega
        have hcond : (fnd p (i, v)).toNat ≠ (fnd p (i, u)).toNat ∧ p[(fnd p (i, v)).toNat]!.1 = p[(fnd p (i, u)).toNat]!.1 ∧ p[(fnd p (i, u)).toNat]!.2 ≤ p[(fnd p (i, v)).toNat]!.2 := by
          rw [f3, q3]
          exact ⟨hne, rfl, by dsimp only; omega⟩
        have h1 := Conn.one _ (mem_redges.2 (.inl ⟨(fnd p (i, u)).toNat, by omega, by omega, .inr ⟨(fnd p (i, v)).toNat, by omega, by omega, mem_rPair.2 ⟨hcond, .inl rfl⟩⟩⟩) : _ ∈ rEdges d l p)
        have h2 := Conn.one _ (mem_redges.2 (.inl ⟨(fnd p (i, u)).toNat, by omega, by omega, .inr ⟨(fnd p (i, v)).toNat, by omega, by omega, mem_rPair.2 ⟨hcond, .inr rfl⟩⟩⟩) : _ ∈ rEdges d l p)
        rw [Int.toNat_of_nonneg (by omega), Int.toNat_of_nonneg (by omega)] at h1 h2
        exact ⟨h1, h2⟩
      rcases Int.lt_trichotomy a b with hlt | heq | hlt
      · exact (main ha.1 hb.1 f1 q1 hlt).1
      · subst heq; exact .refl
      · exact (main hb.1 ha.1 q1 f1 hlt).2
    · obtain ⟨s1, s2, s3⟩ := g.snap s hs
      obtain ⟨n1, n2, n3⟩ := g.snap_ne hs
      exact ⟨⟨s1, n1⟩, ⟨s2, n2⟩, ⟨s3, n3⟩, Conn.one _ (mem_redges.2 (.inr ⟨s, hs, show (⟨fnd p (s.a, s.ata), fnd p (s.b, s.lo), 0⟩ : Ed) ∈ rSnap p s by simp [rSnap]⟩)),
        Conn.one _ (mem_redges.2 (.inr ⟨s, hs, show (⟨fnd p (s.b, s.hi), fnd p (s.a, s.ata), 0⟩ : Ed) ∈ rSnap p s by simp [rSnap]⟩))⟩
theorem ready_ref (g : PG d l p) (hl : l.length ≤ 10) (hp : p.length ≤ 40) : Ready rF Wm p.length (rEdges d l p) :=
  ⟨by unfold Wm; omega, reok g, room (N := 41) (M := 3220) (by omega) (by have := rEdges_len (d := d) (l := l) (p := p) (B := 40) hp (by omega); omega) (by decide), g.pos⟩
end
end
end Bd
end Go.Proofs.Ytaglpampidlbmaa

namespace Go.Proofs.Ytaglpampidlbmaa
open Go Go.Eng
namespace Bd
theorem relax1_len {F : Int} (s : List Int × Bool) (e : Ed) : (relax1 F s e).1.length = s.1.length := by unfold relax1; split <;> simp
theorem fold_len {F : Int} : ∀ (es : List Ed) (s : List Int × Bool), (es.foldl (relax1 F) s).1.length = s.1.length
  | [], _ => rfl
  | e :: r, s => by rw [List.foldl_cons, fold_len r, relax1_len]
theorem iter_len {F : Int} {es : List Ed} : ∀ (k : Nat) (d : List Int), (iter F es k d).length = d.length
  | 0, _ => rfl
  | k + 1, d => by rw [iter, iter_len k]; exact fold_len es (d, true)
theorem fromD_len {F : Int} {n : Nat} {s : Int} : (fromD F n s).length = n := by simp [fromD]
theorem iter_bnd {F W : Int} {n : Nat} {es : List Ed} {d0 : List Int} (hW : 0 ≤ W) (hok : ∀ e ∈ es, EdOK n W e) : ∀ (k : Nat) (B : Int) (d : List Int), 0 ≤ B → Rnd F B W n es d0 d → B + k * (es.length * W) + W < F → Bnd F (B + k * (es.length * W)) (iter F es k d)
  | 0, B, d, _, h, _ => by rw [iter]; exact h.bnd.mono (by simp)
  | k + 1, B, d, hB0, h, hB => by
    have hmul : ((k + 1 : Nat) : Int) * (es.length * W) = k * (es.length * W) + es.length * W := by push_cast; rw [Int.add_mul, Int.one_mul]
    have hn1 : 0 ≤ (es.length : Int) * W := Int.mul_nonneg (by omega) hW
    have hn2 : 0 ≤ (k : Int) * (es.length * W) := Int.mul_nonneg (by omega) hn1
    rw [hmul] at hB ⊢
    obtain ⟨r1, _⟩ := round_spec hW hB0 hok h (by omega)
    have := iter_bnd hW hok k (B + es.length * W) (round F es d).1 (by omega) r1 (by omega)
    exact this.mono (by omega)
theorem Ready.iter_rng {F W : Int} {n : Nat} {es : List Ed} (h : Ready F W n es) {s v : Int} (hs : 0 ≤ s) (hsn : s < n) (h0 : 0 ≤ v) (hn : v < n) : -F ≤ val (iter F es n (Bd.fromD F n s)) v ∧ val (iter F es n (Bd.fromD F n s)) v ≤ F := by
  have hr := h.room
  have h1 : 0 ≤ (es.length : Int) * W := Int.mul_nonneg (by omega) h.hW
  have hmul : ((n + 1 : Nat) : Int) * (es.length * W) = n * (es.length * W) + es.length * W := by push_cast; rw [Int.add_mul, Int.one_mul]
  have := (iter_bnd h.hW h.ok n 0 (Bd.fromD F n s) (Int.le_refl _) (h.fromD_ hs hsn) (by omega)).at h0 (by rw [iter_len, fromD_len]; exact hn)
  have := h.F0
  have := h.hW
  omega
theorem one_key {d : List Ck.Dom} {id at_ : Int} (hid : ∃ x ∈ d, x.id = id) (ha : 0 ≤ at_ ∧ at_ ≤ 1000000000000) : ∀ k ∈ ([(id, at_)] : List Key), (∃ x ∈ d, x.id = k.1) ∧ 0 ≤ k.2 ∧ k.2 ≤ 1000000000000 := fun k hk => by
  have : k = (id, at_) := by simpa using hk
  subst this; exact ⟨hid, ha.1, ha.2⟩
theorem neq_f {a : Int} (h : (!(a == 0)) = true) : (a == 0) = false := by simpa using h
end Bd
end Go.Proofs.Ytaglpampidlbmaa

namespace Go.Proofs.Ytaglpampidlbmaa
open Go Go.Eng
namespace Bd
/-- What is asked of the i-th point and its time. -/
def PtOK (d : List Ck.Dom) (p : List Key) (t : List Int) (i : Nat) : Prop :=
  (Ck.ppmF d p[i]!.1).2 = true ∧ (0 ≤ p[i]!.2 ∧ p[i]!.2 ≤ 1000000000000) ∧ fnd (p.take i) p[i]! < 0 ∧ (-1000000000000000 ≤ t[i]! ∧ t[i]! ≤ 1000000000000000)
structure SatP (d : List Ck.Dom) (l : List Ck.Snap) (p : List Key) (t : List Int) : Prop where
  pg : PG d l p
  len : t.length = p.length
  zero : t[0]! = 0
  pts : ∀ i, 1 ≤ i → i < p.length → PtOK d p t i
  edges : ∀ e ∈ rEdges d l p, t[e.v.toNat]! - t[e.u.toNat]! ≤ e.w
theorem sat_pg {d : List Ck.Dom} {l : List Ck.Snap} {p : List Key} {t : List Int} (ck : Ck.checkF d l = 0) (hpos : 0 < p.length) (hd : p[0]! = (-1, 0)) (hlen : p.length = (rpts d l p).length) (hq : ∀ i, 1 ≤ i → i < p.length → PtOK d p t i) : PG d l p := by
  have g := good_of ck
  have hneg := ids_nonneg ck
  have hnd : p.Nodup := by
    rw [List.nodup_iff_pairwise_ne, List.pairwise_iff_getElem]
    intro i j hi hj hij e
    have := (hq j (by omega) hj).2.2.1
    refine fnd_neg.1 this ?_
    rw [getElem!_pos p j hj, ← e, List.mem_iff_getElem]
    exact ⟨i, by rw [List.length_take]; omega, by rw [List.getElem_take]⟩
  obtain ⟨f1, f2, _⟩ := fold_addK p _ (base_nodup g hneg)
  have hsub : ∀ k ∈ rpts d l p, k ∈ p := fun k hk => by
    refine Classical.byContradiction fun hn => ?_
    have := nodup_le (k :: p) (rpts d l p) (List.nodup_cons.2 ⟨hn, hnd⟩) fun q hq => by
      rcases List.mem_cons.1 hq with rfl | hq
      · exact hk
      · exact (f2 q).2 (.inr hq)
    rw [List.length_cons] at this
    omega
  refine ⟨ck, hpos, hd, hnd, fun k hk hne => ?_, fun k hk => ?_, fun s hs => ?_⟩
  · obtain ⟨i, hi, rfl⟩ := bang_of hk
    have h1 : 1 ≤ i := by
      rcases Nat.eq_zero_or_pos i with h | h
      · subst h; exact absurd hd hne
      · exact h
    have := (hq i h1 hi).1
    rw [ppm_snd ck] at this
    exact Ck.idx_some d _ 0 (of_decide_eq_true this)
  · obtain ⟨i, hi, rfl⟩ := bang_of hk
    rcases Nat.eq_zero_or_pos i with h | h
    · subst h; rw [hd]; exact ⟨Int.le_refl _, by decide⟩
    · exact (hq i h hi).2.1
  · obtain ⟨h1, h2, _⟩ := g.snap s hs
    exact ⟨hsub _ ((rpts_mem g hneg).2 (.inr (.inl ⟨h1, mem_raw.2 ⟨s, hs, .inl ⟨rfl, rfl⟩⟩⟩))), hsub _ ((rpts_mem g hneg).2 (.inr (.inl ⟨h2, mem_raw.2 ⟨s, hs, .inr ⟨rfl, .inl rfl⟩⟩⟩))), hsub _ ((rpts_mem g hneg).2 (.inr (.inl ⟨h2, mem_raw.2 ⟨s, hs, .inr ⟨rfl, .inr rfl⟩⟩⟩)))⟩
theorem pt_ok {d : List Ck.Dom} {p : List Key} {t : List Int} {i : Nat} (h : (((((!(Ck.ppmF d p[i]!.1).2 || decide (p[i]!.2 < 0)) || decide (1000000000000 < p[i]!.2)) || decide (0 ≤ fnd (p.take i) p[i]!)) || decide (t[i]! < -1000000000000000)) || decide (1000000000000000 < t[i]!)) = false) : PtOK d p t i := by
  simp only [Bool.or_eq_false_iff, decide_eq_false_iff_not, Bool.not_eq_false'] at h
  obtain ⟨⟨⟨⟨⟨h1, h2⟩, h3⟩, h4⟩, h5⟩, h6⟩ := h
  exact ⟨h1, ⟨by omega, by omega⟩, by omega, by omega, by omega⟩
theorem head_ok {p a : List Key} {t : List Int} {n m k : Nat} (hp : p.length = n) (ht : t.length = k) (ha : a.length = m)
    (h : ((((((n : Int) == 0) || !((p[0]!.1 == -1) && (p[0]!.2 == 0))) || !((n : Int) == (m : Int))) || !((k : Int) == (n : Int))) || !(t[0]! == 0)) = false) : 0 < p.length ∧ p[0]! = (-1, 0) ∧ p.length = a.length ∧ t.length = p.length ∧ t[0]! = 0 := by
  simp only [Bool.or_eq_false_iff, beq_eq_false_iff_ne, Bool.not_eq_false', Bool.and_eq_true, beq_iff_eq] at h
  obtain ⟨⟨⟨⟨h1, h2⟩, h3⟩, h4⟩, h5⟩ := h
  exact ⟨by omega, Prod.ext h2.1 h2.2, by omega, by omega, h5⟩
theorem all_edges {es : List Ed} {t : List Int} (h : ∀ j, j < es.length → t[es[j]!.v.toNat]! - t[es[j]!.u.toNat]! ≤ es[j]!.w) : ∀ e ∈ es, t[e.v.toNat]! - t[e.u.toNat]! ≤ e.w := fun e he => by
  obtain ⟨j, hj, rfl⟩ := bang_of he
  exact h j hj
theorem times_b {d : List Ck.Dom} {p : List Key} {t : List Int} (h0 : t[0]! = 0) (hq : ∀ i, 1 ≤ i → i < p.length → PtOK d p t i) {i : Nat} (hi : i < p.length) : -1000000000000000 ≤ t[i]! ∧ t[i]! ≤ 1000000000000000 := by
  rcases Nat.eq_zero_or_pos i with h | h
  · subst h; rw [h0]; omega
  · exact (hq i h hi).2.2.2
end Bd
end Go.Proofs.Ytaglpampidlbmaa
