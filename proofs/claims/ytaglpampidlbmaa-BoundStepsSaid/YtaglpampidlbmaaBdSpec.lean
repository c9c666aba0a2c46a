/- What package bound computes, in plain Lean: nodes, edges, shortest ways. Conditions: none. -/
import Derived.Test.YtaglpampidlbmaaMapP
import Derived.Test.YtaglpampidlbmaaCkM1
import Derived.Test.YtaglpampidlbmaaIvSpec
namespace Go.Proofs.Ytaglpampidlbmaa
open Go Go.Eng
namespace Bd
structure Ed where
  u : Int
  v : Int
  w : Int
instance : Inhabited Ed := ⟨⟨0, 0, 0⟩⟩
def Ed.c (e : Ed) : List Value := [.int .i64 e.u, .int .i64 e.v, .int .i64 e.w]
theorem Ed.one (x : Ed) : ∀ u ∈ x.c, u.oneCell' = true := by simp [Ed.c, Value.oneCell']
abbrev Key := Int × Int
def kc (k : Key) : List Value := [.int .i64 k.1, .int .i64 k.2]
theorem kc_one (x : Key) : ∀ u ∈ kc x, u.oneCell' = true := by simp [kc, Value.oneCell']
/-! ### Nodes -/
def ptsQ (l : List Ck.Snap) (x id at_ : Int) : List Int := if x = id then Ck.put (Ck.pts l x) at_ else Ck.pts l x
def nodX (l : List Ck.Snap) (id at_ : Int) (x : Ck.Dom) : List Key := (ptsQ l x.id id at_).map fun p => (x.id, p)
def nds (d : List Ck.Dom) (l : List Ck.Snap) (id at_ : Int) : List Key := d.flatMap (nodX l id at_)
/-- A node's number. -/
def nix (n : List Key) (k : Key) : Int := ((n.idxOf k : Nat) : Int) + 1
def numF : Nat → List Key → PM
  | _, [] => []
  | k, x :: r => (x, .int .i64 (((k + 1 : Nat)) : Int)) :: numF (k + 1) r
theorem numF_app : ∀ (k : Nat) (a b : List Key), numF k (a ++ b) = numF k a ++ numF (k + a.length) b
  | k, [], b => by simp [numF]
  | k, x :: r, b => by
    rw [List.cons_append, numF, numF, numF_app (k + 1) r b, List.cons_append, List.length_cons]
    rw [show k + 1 + r.length = k + (r.length + 1) by omega]
theorem numF_len : ∀ (k : Nat) (a : List Key), (numF k a).length = a.length
  | _, [] => rfl
  | k, _ :: r => by rw [numF, List.length_cons, List.length_cons, numF_len (k + 1) r]
theorem numF_get : ∀ (k : Nat) (a : List Key) (x : Key), pget (numF k a) x = if x ∈ a then some (.int .i64 (((k + a.idxOf x + 1 : Nat)) : Int)) else none
  | k, [], x => by simp [numF, pget]
  | k, y :: r, x => by
    rw [numF, pget]
    by_cases h : x = y
    · subst h
      rw [if_pos rfl, if_pos (by simp), List.idxOf_cons_self]
    · rw [if_neg h, numF_get (k + 1) r x]
      by_cases hm : x ∈ r
      · rw [if_pos hm, if_pos (by simp [hm]), show (y :: r).idxOf x = r.idxOf x + 1 from by rw [List.idxOf_cons, show (y == x) = false from by simpa using Ne.symm h]; rfl]
        rw [show k + 1 + r.idxOf x + 1 = k + (r.idxOf x + 1) + 1 by omega]
      · rw [if_neg hm, if_neg (by simp [h, hm])]
theorem numF_push (a : List Key) (x : Key) : numF 0 (a ++ [x]) = numF 0 a ++ [(x, .int .i64 (((numF 0 a).length : Nat) + 1 : Int))] := by
  rw [numF_app, numF_len]
  simp [numF]
theorem nix_pre {a b : List Key} {k : Key} (h : k ∈ a) : nix (a ++ b) k = nix a k := by unfold nix; rw [List.idxOf_append, if_pos h]
theorem nix_new {a b : List Key} {k : Key} (h : k ∉ a) : nix (a ++ k :: b) k = (a.length : Int) + 1 := by
  unfold nix
  rw [List.idxOf_append, if_neg h, List.idxOf_cons_self]
  simp
theorem nix_rng {a : List Key} {k : Key} (h : k ∈ a) : 1 ≤ nix a k ∧ nix a k ≤ (a.length : Int) := by
  unfold nix
  have := List.idxOf_lt_length_of_mem h
  omega
theorem pv_has {m : PM} {k : Key} {v z : Value} (h : pget m k = some v) : pval m k z = v := by unfold pval; rw [h]; rfl
theorem pg_has {m : PM} {k : Key} {v : Value} (h : pget m k = some v) : Value.bool (pget m k).isSome = .bool true := by rw [h]; rfl
theorem pg_no {m : PM} {k : Key} (h : pget m k = none) : Value.bool (pget m k).isSome = .bool false := by rw [h]; rfl
/-! ### Edges -/
def ePt (n : List Key) (x : Ck.Dom) (ps : List Int) (i : Nat) : List Ed :=
  if x.id = 0 then [⟨0, nix n (x.id, ps[i]!), ps[i]!⟩, ⟨nix n (x.id, ps[i]!), 0, -ps[i]!⟩]
  else (ps.take i).flatMap fun q => [⟨nix n (x.id, q), nix n (x.id, ps[i]!), (Iv.stretchF (ps[i]! - q) x.ppm).1.2⟩, ⟨nix n (x.id, ps[i]!), nix n (x.id, q), -(Iv.stretchF (ps[i]! - q) x.ppm).1.1⟩]
def ePts (n : List Key) (x : Ck.Dom) (ps : List Int) (j : Nat) : List Ed := (List.range j).flatMap (ePt n x ps)
def eDom (n : List Key) (l : List Ck.Snap) (id at_ : Int) (x : Ck.Dom) : List Ed := ePts n x (ptsQ l x.id id at_) (ptsQ l x.id id at_).length
def eSnap (n : List Key) (s : Ck.Snap) : List Ed := [⟨nix n (s.a, s.ata), nix n (s.b, s.lo), 0⟩, ⟨nix n (s.b, s.hi), nix n (s.a, s.ata), 0⟩]
def edgesF (d : List Ck.Dom) (l : List Ck.Snap) (id at_ : Int) : List Ed := d.flatMap (eDom (nds d l id at_) l id at_) ++ l.flatMap (eSnap (nds d l id at_))
/-! ### Shortest ways -/
def relax1 (F : Int) (s : List Int × Bool) (e : Ed) : List Int × Bool :=
  if s.1[e.u.toNat]! < F ∧ s.1[e.u.toNat]! + e.w < s.1[e.v.toNat]! then (s.1.set e.v.toNat (s.1[e.u.toNat]! + e.w), false) else s
def round (F : Int) (es : List Ed) (d : List Int) : List Int × Bool := es.foldl (relax1 F) (d, true)
def relaxN (F : Int) (es : List Ed) : Nat → List Int → List Int × Bool
  | 0, d => (d, false)
  | k + 1, d => if (round F es d).2 = true then ((round F es d).1, true) else relaxN F es k (round F es d).1
def far : Int := 9223372036854775807
def swap (e : Ed) : Ed := ⟨e.v, e.u, e.w⟩
def turn (b : Bool) (es : List Ed) : List Ed := if b = true then es.map swap else es
/-! ### Library functions -/
def idxI (l : List Int) (v : Int) : Int := if v ∈ l then ((l.idxOf v : Nat) : Int) else -1
theorem idxI_no {l : List Int} {v : Int} (h : ∀ j, j < l.length → l[j]! ≠ v) : idxI l v = -1 := by
  unfold idxI
  rw [if_neg]
  intro hm
  obtain ⟨j, hj, rfl⟩ := List.mem_iff_getElem.1 hm
  exact h j hj (getElem!_pos l j hj)
theorem idxI_yes {l : List Int} {v : Int} {i : Nat} (h : ∀ j, j < i → l[j]! ≠ v) (hi : i < l.length) (he : l[i]! = v) : idxI l v = (i : Int) := by
  have hm : v ∈ l := he ▸ bang_mem hi
  unfold idxI
  rw [if_pos hm]
  have hx := List.idxOf_lt_length_of_mem hm
  have hg : l[l.idxOf v]! = v := by rw [getElem!_pos l _ hx]; exact List.getElem_idxOf hx
  have h1 : ¬ l.idxOf v < i := fun hlt => h _ hlt hg
  have h2 : ¬ i < l.idxOf v := fun hlt => by
    have := List.not_of_lt_findIdx (p := (· == v)) (xs := l) (i := i) hlt
    rw [getElem!_pos l i hi] at he
    simp [he] at this
  congr 1; omega
theorem idxI_mem (l : List Int) (v : Int) : decide (0 ≤ idxI l v) = decide (v ∈ l) := by
  unfold idxI
  by_cases h : v ∈ l
  · rw [if_pos h]; simp [h]
  · rw [if_neg h]; simp [h]
theorem srt_inc {l : List Int} (h : Ck.Inc l) : Ck.srt l = l := by
  unfold Ck.srt
  refine List.mergeSort_of_pairwise ?_
  exact h.imp fun hab => by simpa using Int.le_of_lt hab
theorem rep_copy {a : Int} {n N : Nat} {m : Nat} (hm : m = min n (N - n)) (hn : n ≤ N) : (List.replicate n a ++ List.replicate (N - n) 0).take n ++ ((List.replicate n a ++ List.replicate (N - n) 0).take n).take m ++ (List.replicate n a ++ List.replicate (N - n) 0).drop (n + m) = List.replicate (n + m) a ++ List.replicate (N - (n + m)) (0 : Int) := by
  have e1 : (List.replicate n a ++ List.replicate (N - n) (0 : Int)).take n = List.replicate n a := by rw [List.take_left' (by simp)]
  rw [e1, List.drop_append, List.drop_eq_nil_of_le (by simp), List.nil_append, List.take_replicate, List.replicate_append_replicate, List.length_replicate, List.drop_replicate]
  congr 2 <;> omega
theorem rep_first {a : Int} {l : List Int} {m n : Nat} (hl : l = [a]) (hm : m = 1) (hn : 1 ≤ n) : l.take m ++ (List.replicate n (0 : Int)).drop m = List.replicate m a ++ List.replicate (n - m) 0 := by
  subst hl hm
  rw [List.drop_replicate]; rfl
end Bd
end Go.Proofs.Ytaglpampidlbmaa
