/- What the reference's functions compute, in plain terms. Conditions: none. -/
import Derived.Test.YtaglpampidlbmaaBdOfS
namespace Go.Proofs.Ytaglpampidlbmaa
open Go Go.Eng
namespace Bd
def rF : Int := 1152921504606846976
def fnd (l : List Key) (p : Key) : Int := if p ∈ l then ((l.idxOf p : Nat) : Int) else -1
theorem key_eq {a b : Key} : ((a.1 == b.1) && (a.2 == b.2)) = decide (a = b) := by
  by_cases h : a = b
  · subst h; simp
  · rw [decide_eq_false h, Bool.and_eq_false_iff]
    by_cases h1 : a.1 = b.1
    · exact .inr (by simpa using fun h2 => h (Prod.ext h1 h2))
    · exact .inl (by simpa using h1)
theorem fnd_no {l : List Key} {v : Key} (h : ∀ j, j < l.length → l[j]! ≠ v) : fnd l v = -1 := by
  unfold fnd
  rw [if_neg]
  intro hm
  obtain ⟨j, hj, rfl⟩ := List.mem_iff_getElem.1 hm
  exact h j hj (getElem!_pos l j hj)
theorem fnd_yes {l : List Key} {v : Key} {i : Nat} (h : ∀ j, j < i → l[j]! ≠ v) (hi : i < l.length) (he : l[i]! = v) : fnd l v = (i : Int) := by
  have hm : v ∈ l := he ▸ bang_mem hi
  unfold fnd
  rw [if_pos hm]
  have hx := List.idxOf_lt_length_of_mem hm
  have hg : l[l.idxOf v]! = v := by rw [getElem!_pos l _ hx]; exact List.getElem_idxOf hx
  have h1 : ¬ l.idxOf v < i := fun hlt => h _ hlt hg
  have h2 : ¬ i < l.idxOf v := fun hlt => by
    have := List.not_of_lt_findIdx (p := (· == v)) (xs := l) (i := i) hlt
    rw [getElem!_pos l i hi] at he
    simp [he] at this
  congr 1; omega
theorem fnd_rng {l : List Key} {v : Key} (h : v ∈ l) : 0 ≤ fnd l v ∧ fnd l v < (l.length : Int) := by
  unfold fnd
  rw [if_pos h]
  have := List.idxOf_lt_length_of_mem h
  omega
theorem fnd_at {l : List Key} {v : Key} (h : v ∈ l) : l[(fnd l v).toNat]! = v := by
  unfold fnd
  rw [if_pos h, Int.toNat_natCast, getElem!_pos l _ (List.idxOf_lt_length_of_mem h)]
  exact List.getElem_idxOf _
theorem fnd_neg {l : List Key} {v : Key} : fnd l v < 0 ↔ v ∉ l := by
  unfold fnd
  by_cases h : v ∈ l
  · rw [if_pos h]; simp [h]
  · rw [if_neg h]; simp [h]
/-! ### Points -/
def domK (l : List Ck.Snap) (x : Ck.Dom) : List Key := (Ck.pts l x.id).map fun q => (x.id, q)
def rpN (d : List Ck.Dom) (l : List Ck.Snap) (i : Nat) : List Key := (-1, 0) :: (d.take i).flatMap (domK l)
def domP (l : List Ck.Snap) (x : Ck.Dom) (j : Nat) : List Key := ((Ck.pts l x.id).take j).map fun q => (x.id, q)
def addK (o : List Key) (p : Key) : List Key := if fnd o p < 0 then o ++ [p] else o
def rpts (d : List Ck.Dom) (l : List Ck.Snap) (more : List Key) : List Key := more.foldl addK (rpN d l d.length)
theorem domP_next {l : List Ck.Snap} {x : Ck.Dom} {j : Nat} (hj : j < (Ck.pts l x.id).length) : domP l x (j + 1) = domP l x j ++ [(x.id, (Ck.pts l x.id)[j]!)] := by
  unfold domP
  rw [take_bang hj, List.map_append]; rfl
theorem domP_all {l : List Ck.Snap} {x : Ck.Dom} {j : Nat} (hj : (Ck.pts l x.id).length ≤ j) : domP l x j = domK l x := by
  unfold domP domK
  rw [List.take_of_length_le hj]
theorem rpN_next {d : List Ck.Dom} {l : List Ck.Snap} {i : Nat} (hi : i < d.length) : rpN d l (i + 1) = rpN d l i ++ domK l d[i]! := by
  unfold rpN
  rw [take_bang hi, List.flatMap_append]; simp
theorem rpts_next {d : List Ck.Dom} {l : List Ck.Snap} {m : List Key} {i : Nat} (hi : i < m.length) : rpts d l (m.take (i + 1)) = addK (rpts d l (m.take i)) m[i]! := by
  unfold rpts
  rw [take_bang hi, List.foldl_append]; rfl
theorem addK_len (o : List Key) (p : Key) : (addK o p).length ≤ o.length + 1 := by unfold addK; split <;> simp
theorem domK_len {l : List Ck.Snap} {x : Ck.Dom} : (domK l x).length ≤ 3 * l.length := by
  unfold domK; rw [List.length_map]; exact Ck.pts_len l x.id
theorem domP_len {l : List Ck.Snap} {x : Ck.Dom} {j : Nat} : (domP l x j).length ≤ 3 * l.length := by
  unfold domP; rw [List.length_map, List.length_take]; have := Ck.pts_len l x.id; omega
theorem rpN_len {d : List Ck.Dom} {l : List Ck.Snap} {i : Nat} {B : Nat} (h : 3 * l.length ≤ B) (hd : d.length ≤ 12) : (rpN d l i).length ≤ 12 * B + 1 := by
  unfold rpN
  rw [List.length_cons]
  have : ((d.take i).flatMap (domK l)).length ≤ (d.take i).length * B := flat_len _ fun x _ => Nat.le_trans domK_len h
  have h2 : (d.take i).length * B ≤ 12 * B := Nat.mul_le_mul_right _ (by rw [List.length_take]; omega)
  omega
theorem fold_add_len : ∀ (m o : List Key), (m.foldl addK o).length ≤ o.length + m.length
  | [], o => by simp
  | p :: r, o => by
    rw [List.foldl_cons]
    have := fold_add_len r (addK o p)
    have := addK_len o p
    rw [List.length_cons]; omega
theorem rpts_len {d : List Ck.Dom} {l : List Ck.Snap} {m : List Key} {B : Nat} (h : 3 * l.length ≤ B) (hd : d.length ≤ 12) : (rpts d l m).length ≤ 12 * B + 1 + m.length := by
  have := fold_add_len m (rpN d l d.length)
  have := rpN_len (d := d) (l := l) (i := d.length) h hd
  unfold rpts; omega
/-! ### Edges -/
def rPair (d : List Ck.Dom) (p : List Key) (i k : Nat) : List Ed :=
  if (((!((k : Int) == (i : Int))) && (p[k]!.1 == p[i]!.1)) && decide (p[i]!.2 ≤ p[k]!.2)) = true then
    [⟨i, k, (Iv.stretchF (p[k]!.2 - p[i]!.2) (Ck.ppmF d p[i]!.1).1).1.2⟩, ⟨k, i, -(Iv.stretchF (p[k]!.2 - p[i]!.2) (Ck.ppmF d p[i]!.1).1).1.1⟩] else []
def rHead (p : List Key) (i : Nat) : List Ed := if (p[i]!.1 == 0) = true then [⟨0, i, p[i]!.2⟩, ⟨i, 0, -p[i]!.2⟩] else []
def rRow (d : List Ck.Dom) (p : List Key) (i k : Nat) : List Ed := rHead p i ++ (List.range' 1 (k - 1)).flatMap (rPair d p i)
def rRows (d : List Ck.Dom) (p : List Key) (i : Nat) : List Ed := (List.range' 1 (i - 1)).flatMap fun j => rRow d p j p.length
def rSnap (p : List Key) (s : Ck.Snap) : List Ed := [⟨fnd p (s.a, s.ata), fnd p (s.b, s.lo), 0⟩, ⟨fnd p (s.b, s.hi), fnd p (s.a, s.ata), 0⟩]
def rEdges (d : List Ck.Dom) (l : List Ck.Snap) (p : List Key) : List Ed := rRows d p p.length ++ l.flatMap (rSnap p)
theorem range'_next {k : Nat} (hk : 1 ≤ k) : List.range' 1 k = List.range' 1 (k - 1) ++ [k] := by
  obtain ⟨j, rfl⟩ : ∃ j, k = j + 1 := ⟨k - 1, by omega⟩
  rw [Nat.add_sub_cancel, List.range'_1_concat]
  congr 2; omega
theorem rRow_next {d : List Ck.Dom} {p : List Key} {i k : Nat} (hk : 1 ≤ k) : rRow d p i (k + 1) = rRow d p i k ++ rPair d p i k := by
  unfold rRow
  rw [Nat.add_sub_cancel, range'_next hk, List.flatMap_append, List.append_assoc]; simp
theorem rRows_next {d : List Ck.Dom} {p : List Key} {i : Nat} (hi : 1 ≤ i) : rRows d p (i + 1) = rRows d p i ++ rRow d p i p.length := by
  unfold rRows
  rw [Nat.add_sub_cancel, range'_next hi, List.flatMap_append]; simp
theorem rRow_yes {d : List Ck.Dom} {p : List Key} {i : Nat} (h : (p[i]!.1 == 0) = true) : rRow d p i 1 = [⟨0, i, p[i]!.2⟩, ⟨i, 0, -p[i]!.2⟩] := by
  unfold rRow rHead
  rw [if_pos h]; simp
theorem rRow_no {d : List Ck.Dom} {p : List Key} {i : Nat} (h : (p[i]!.1 == 0) = false) : rRow d p i 1 = [] := by
  unfold rRow rHead
  rw [if_neg (by rw [h]; decide)]; simp
theorem rPair_yes {d : List Ck.Dom} {p : List Key} {i k : Nat} (h : (((!((k : Int) == (i : Int))) && (p[k]!.1 == p[i]!.1)) && decide (p[i]!.2 ≤ p[k]!.2)) = true) :
    rPair d p i k = [⟨i, k, (Iv.stretchF (p[k]!.2 - p[i]!.2) (Ck.ppmF d p[i]!.1).1).1.2⟩, ⟨k, i, -(Iv.stretchF (p[k]!.2 - p[i]!.2) (Ck.ppmF d p[i]!.1).1).1.1⟩] := by unfold rPair; rw [if_pos h]
theorem rPair_no {d : List Ck.Dom} {p : List Key} {i k : Nat} (h : (((!((k : Int) == (i : Int))) && (p[k]!.1 == p[i]!.1)) && decide (p[i]!.2 ≤ p[k]!.2)) = false) : rPair d p i k = [] := by
  unfold rPair; rw [if_neg (by rw [h]; decide)]
theorem rRows_end {d : List Ck.Dom} {p : List Key} {i : Nat} (h : p.length ≤ i) (h1 : i ≤ p.length ∨ i = 1) : rRows d p i = rRows d p p.length := by
  rcases h1 with h1 | h1
  · rw [show i = p.length by omega]
  · subst h1
    unfold rRows
    rw [show p.length - 1 = 0 by omega]
theorem rPair_len {d : List Ck.Dom} {p : List Key} {i k : Nat} : (rPair d p i k).length ≤ 2 := by unfold rPair; split <;> simp
theorem rHead_len {p : List Key} {i : Nat} : (rHead p i).length ≤ 2 := by unfold rHead; split <;> simp
theorem rRow_len {d : List Ck.Dom} {p : List Key} {i k : Nat} {B : Nat} (h : k ≤ B) (hB : 1 ≤ B) : (rRow d p i k).length ≤ 2 * B := by
  unfold rRow
  rw [List.length_append]
  have h1 : ((List.range' 1 (k - 1)).flatMap (rPair d p i)).length ≤ (List.range' 1 (k - 1)).length * 2 := flat_len _ fun x _ => rPair_len
  have h2 := rHead_len (p := p) (i := i)
  rw [List.length_range'] at h1
  omega
theorem rRows_len {d : List Ck.Dom} {p : List Key} {i : Nat} {B : Nat} (h : p.length ≤ B) (hi : i ≤ B) (hB : 1 ≤ B) : (rRows d p i).length ≤ B * (2 * B) := by
  unfold rRows
  have h1 : ((List.range' 1 (i - 1)).flatMap fun j => rRow d p j p.length).length ≤ (List.range' 1 (i - 1)).length * (2 * B) := flat_len _ fun x _ => rRow_len h hB
  rw [List.length_range'] at h1
  exact Nat.le_trans h1 (Nat.mul_le_mul_right _ (by omega))
theorem rSnaps_len {p : List Key} {m : List Ck.Snap} : (m.flatMap (rSnap p)).length ≤ m.length * 2 := flat_len _ fun s _ => by simp [rSnap]
theorem rEdges_len {d : List Ck.Dom} {l : List Ck.Snap} {p : List Key} {B : Nat} (h : p.length ≤ B) (hB : 1 ≤ B) : (rEdges d l p).length ≤ B * (2 * B) + l.length * 2 := by
  have := rRows_len (d := d) h h hB
  have := rSnaps_len (p := p) (m := l)
  unfold rEdges
  rw [List.length_append]; omega
/-! ### Rounds -/
theorem relax2_yes {F : Int} {c : List Int} {b : Bool} {e : Ed} (hc : (decide (c[e.u.toNat]! < F) && decide (c[e.u.toNat]! + e.w < c[e.v.toNat]!)) = true) : relax1 F (c, b) e = (c.set e.v.toNat (c[e.u.toNat]! + e.w), false) := by
  simp only [Bool.and_eq_true, decide_eq_true_eq] at hc
  unfold relax1
  rw [if_pos hc]
theorem relax2_no {F : Int} {c : List Int} {b : Bool} {e : Ed} (hc : (decide (c[e.u.toNat]! < F) && decide (c[e.u.toNat]! + e.w < c[e.v.toNat]!)) = false) : relax1 F (c, b) e = (c, b) := by
  unfold relax1
  rw [if_neg]
  rintro ⟨h1, h2⟩
  rw [decide_eq_true h1, decide_eq_true h2] at hc
  cases hc
theorem iter_next {F : Int} {es : List Ed} : ∀ (k : Nat) (d : List Int), iter F es (k + 1) d = (round F es (iter F es k d)).1
  | 0, _ => rfl
  | k + 1, d => by
    rw [iter, iter_next k]
    rfl
theorem rnd_of {F W B : Int} {n : Nat} {es : List Ed} {d : List Int} (hW : 0 ≤ W) (hB0 : 0 ≤ B) (hok : ∀ e ∈ es, EdOK n W e) (hl : d.length = n) (hb : Bnd F B d) (hB : B + es.length * W < F) : (round F es d).1.length = n ∧ Bnd F (B + es.length * W) (round F es d).1 := by
  have h0 : 0 ≤ (es.length : Int) * W := Int.mul_nonneg (by omega) hW
  obtain ⟨a1, _⟩ := round_spec (d0 := d) hW hB0 hok ⟨Inv.first hl hb (by omega), hb⟩ hB
  exact ⟨a1.inv.len, a1.bnd⟩
def rConF (es : List Ed) (n : Nat) : Bool := (relaxN rF es (n + 1) (zeros n)).2
theorem bnd_fromR (n : Nat) (fr : Int) : Bnd rF 0 (fromD rF n fr) := fun x hx => by
  rcases List.mem_or_eq_of_mem_set hx with h | h
  · exact .inl (List.eq_of_mem_replicate h)
  · exact .inr (by omega)
theorem bnd_zeros (F : Int) (n : Nat) : Bnd F 0 (zeros n) := fun x hx => by
  have := List.eq_of_mem_replicate hx
  exact .inr (by omega)
theorem contr_step {F : Int} {es : List Ed} {k : Nat} {c : List Int} {R : List Int × Bool} (h : relaxN F es k c = R) (hk : 0 < k) :
    ((!(round F es c).2) = true → relaxN F es (k - 1) (round F es c).1 = R) ∧ ((!(round F es c).2) = false → R.2 = true) := by
  constructor
  · intro hb
    rw [← h, relaxN_no (c2 := (round F es c).1) (by rw [show round F es c = ((round F es c).1, (round F es c).2) from rfl]; simp at hb; rw [hb]) hk]
  · intro hb
    rw [← h, relaxN_yes (c2 := (round F es c).1) (by rw [show round F es c = ((round F es c).1, (round F es c).2) from rfl]; simp at hb; rw [hb]) hk]
theorem contr_end {es : List Ed} {n i : Nat} {cur : List Int} {b : Bool} (h : (b = true → relaxN rF es (n + 1 - i) cur = relaxN rF es (n + 1) (zeros n)) ∧ (b = false → (relaxN rF es (n + 1) (zeros n)).2 = true)) (hi : n + 1 ≤ i ∨ b = false) : b = !(rConF es n) := by
  unfold rConF
  cases b
  · rw [h.2 rfl]; rfl
  · rcases hi with hi | hi
    · rw [← h.1 rfl, show n + 1 - i = 0 by omega]; rfl
    · cases hi
def rofF (d : List Ck.Dom) (l : List Ck.Snap) (id at_ : Int) : (Int × Int) × Int :=
  if (!(Ck.checkF d l == 0)) = true then ((0, 0), Ck.checkF d l) else if (!(Ck.ppmF d id).2) = true then ((0, 0), 5)
  else if (decide (at_ < 0) || decide (1000000000000 < at_)) = true then ((0, 0), 2)
  else if (!Ck.linkedF d l id || !rConF (rEdges d l (rpts d l [(id, at_)])) (rpts d l [(id, at_)]).length) = true then ((0, 0), 12)
  else ((-val (iter rF (rEdges d l (rpts d l [(id, at_)])) (rpts d l [(id, at_)]).length (fromD rF (rpts d l [(id, at_)]).length (fnd (rpts d l [(id, at_)]) (id, at_)))) 0,
    val (iter rF (rEdges d l (rpts d l [(id, at_)])) (rpts d l [(id, at_)]).length (fromD rF (rpts d l [(id, at_)]).length 0)) (fnd (rpts d l [(id, at_)]) (id, at_))), 0)
def rconsF (d : List Ck.Dom) (l : List Ck.Snap) : Bool := (Ck.checkF d l == 0) && rConF (rEdges d l (rpts d l [])) (rpts d l []).length
end Bd
end Go.Proofs.Ytaglpampidlbmaa
