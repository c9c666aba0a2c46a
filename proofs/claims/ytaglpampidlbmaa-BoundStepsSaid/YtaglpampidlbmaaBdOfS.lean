/- What package bound's functions compute, in plain Lean; the graph's size. Conditions: none. -/
import Derived.Test.YtaglpampidlbmaaBdBld
namespace Go.Proofs.Ytaglpampidlbmaa
open Go Go.Eng
namespace Bd
def Wm : Int := 1010000000000
def nN (d : List Ck.Dom) (l : List Ck.Snap) (id at_ : Int) : Nat := (nds d l id at_).length + 1
def conF (d : List Ck.Dom) (l : List Ck.Snap) (id at_ : Int) : Bool := (relaxN far (edgesF d l id at_) (nN d l id at_ + 1) (zeros (nN d l id at_))).2
def distF (b : Bool) (d : List Ck.Dom) (l : List Ck.Snap) (id at_ : Int) : Int := val (relaxN far (turn b (edgesF d l id at_)) (nN d l id at_ + 1) (fromD far (nN d l id at_) 0)).1 (nix (nds d l id at_) (id, at_))
def ofF (d : List Ck.Dom) (l : List Ck.Snap) (id at_ : Int) : (Int × Int) × Int :=
  if (!(Ck.checkF d l == 0)) = true then ((0, 0), Ck.checkF d l) else if (!decide (0 ≤ Ck.idx d id 0)) = true then ((0, 0), 5)
  else if (decide (at_ < 0) || decide (1000000000000 < at_)) = true then ((0, 0), 2) else if (!Ck.linkedF d l id) = true then ((0, 0), 12)
  else if (!conF d l id at_) = true then ((0, 0), 12) else ((-distF true d l id at_, distF false d l id at_), 0)
def ofV (r : (Int × Int) × Int) : Value := .tuple #[.agg #[.int .i64 r.1.1, .int .i64 r.1.2], .int .i64 r.2]
def consF (d : List Ck.Dom) (l : List Ck.Snap) : Bool := (Ck.checkF d l == 0) && conF d l 0 0
def manyE (f : Int → (Int × Int) × Int) : List Int → Int
  | [] => 0
  | x :: r => if (f x).2 == 0 then manyE f r else (f x).2
def manyL (f : Int → (Int × Int) × Int) (l : List Int) : List (Int × Int) := if manyE f l == 0 then l.map fun x => (f x).1 else []
theorem manyE_ok {f : Int → (Int × Int) × Int} : ∀ {l : List Int}, (∀ j, j < l.length → (f l[j]!).2 = 0) → manyE f l = 0
  | [], _ => rfl
  | x :: r, h => by
    unfold manyE
    rw [if_pos (by have := h 0 (by simp); simpa using this)]
    exact manyE_ok fun j hj => by have := h (j + 1) (by simpa using hj); simpa using this
theorem manyE_hit {f : Int → (Int × Int) × Int} : ∀ {l : List Int} {i : Nat}, i < l.length → (∀ j, j < i → (f l[j]!).2 = 0) → (f l[i]!).2 ≠ 0 → manyE f l = (f l[i]!).2
  | [], _, hi, _, _ => by simp at hi
  | x :: r, 0, _, _, h => by
    unfold manyE
    rw [if_neg (by simpa using h)]; rfl
  | x :: r, i + 1, hi, hj, h => by
    unfold manyE
    rw [if_pos (by have := hj 0 (by omega); simpa using this)]
    exact manyE_hit (by simpa using hi) (fun j hj' => by have := hj (j + 1) (by omega); simpa using this) (by simpa using h)
section
variable {d : List Ck.Dom} {l : List Ck.Snap} {id at_ : Int}
theorem str_W (a b : Int) : (-Wm ≤ (Iv.stretchF a b).1.1 ∧ (Iv.stretchF a b).1.1 ≤ Wm) ∧ (-Wm ≤ (Iv.stretchF a b).1.2 ∧ (Iv.stretchF a b).1.2 ≤ Wm) := by
  have := Iv.str_bound a b
  unfold Wm; omega
theorem eok_prog (g : Good d l) (ha : 0 ≤ at_ ∧ at_ ≤ 1000000000000) : ∀ e ∈ edgesF d l id at_, EdOK (nN d l id at_) Wm e := by
  intro e he
  have hr : ∀ k, k ∈ nds d l id at_ → 0 ≤ nix (nds d l id at_) k ∧ nix (nds d l id at_) k < ((nN d l id at_ : Nat) : Int) := fun k hk => by have := nix_rng hk; unfold nN; omega
  have h0 : (0 : Int) < ((nN d l id at_ : Nat) : Int) := by unfold nN; omega
  have hW : Wm = 1010000000000 := rfl
  rcases mem_edges.1 he with ⟨x, hx, he⟩ | ⟨s, hs, he⟩
  · rw [mem_eDom] at he
    split at he
    · obtain ⟨p, hp, he⟩ := he
      have hk := hr _ (mem_nds.2 ⟨⟨x, hx, rfl⟩, hp⟩ : (x.id, p) ∈ nds d l id at_)
      have hb := ptsQ_rng g ha hp
      rcases he with rfl | rfl
      · exact ⟨Int.le_refl _, h0, hk.1, hk.2, by dsimp only; omega, by dsimp only; omega⟩
      · exact ⟨hk.1, hk.2, Int.le_refl _, h0, by dsimp only; omega, by dsimp only; omega⟩
    · obtain ⟨p, hp, q, hq, _, he⟩ := he
      have hk := hr _ (mem_nds.2 ⟨⟨x, hx, rfl⟩, hp⟩ : (x.id, p) ∈ nds d l id at_)
      have hk' := hr _ (mem_nds.2 ⟨⟨x, hx, rfl⟩, hq⟩ : (x.id, q) ∈ nds d l id at_)
      have hs := str_W (p - q) x.ppm
      rcases he with rfl | rfl
      · exact ⟨hk'.1, hk'.2, hk.1, hk.2, hs.2.1, hs.2.2⟩
      · exact ⟨hk.1, hk.2, hk'.1, hk'.2, by dsimp only; omega, by dsimp only; omega⟩
  · obtain ⟨k1, k2, k3⟩ := snap_nds (id := id) (at_ := at_) g hs
    have h1 := hr _ k1
    have h2 := hr _ k2
    have h3 := hr _ k3
    unfold eSnap at he
    rcases List.mem_cons.1 he with rfl | he
    · exact ⟨h1.1, h1.2, h2.1, h2.2, by dsimp only; omega, by dsimp only; omega⟩
    · have : e = ⟨nix (nds d l id at_) (s.b, s.hi), nix (nds d l id at_) (s.a, s.ata), 0⟩ := by simpa using he
      subst this
      exact ⟨h3.1, h3.2, h1.1, h1.2, by dsimp only; omega, by dsimp only; omega⟩
theorem edges_len (hl : l.length ≤ 11) (hd : d.length ≤ 8) : (edgesF d l id at_).length ≤ 18518 := by
  have h1 := edN_len (d := d) (l := l) (id := id) (at_ := at_) (i := d.length) (B := 34) (by omega) hd
  have h2 := snaps_len (n := nds d l id at_) (m := l)
  have e : edgesF d l id at_ = edN d l id at_ d.length ++ l.flatMap (eSnap (nds d l id at_)) := by
    unfold edgesF edN; rw [List.take_length]
  rw [e, List.length_append]
  omega
theorem nN_le (hl : l.length ≤ 11) (hd : d.length ≤ 8) : nN d l id at_ ≤ 273 := by
  have h1 := ndsN_len (d := d) (l := l) (id := id) (at_ := at_) (i := d.length) (B := 34) (by omega) hd
  rw [ndsN_all (Nat.le_refl _)] at h1
  unfold nN; omega
theorem room {n m : Nat} {N M F : Int} (hn : n + 1 ≤ N) (hm : m ≤ M) (hF : N * (M * Wm) + Wm < F) : ((n + 1 : Nat) : Int) * (m * Wm) + Wm < F := by
  have hW : (0 : Int) ≤ Wm := by unfold Wm; omega
  have h1 : (m : Int) * Wm ≤ M * Wm := Int.mul_le_mul_of_nonneg_right hm hW
  have h0 : 0 ≤ (m : Int) * Wm := Int.mul_nonneg (by omega) hW
  have h2 : ((n + 1 : Nat) : Int) * (m * Wm) ≤ N * (M * Wm) := Int.mul_le_mul (by push_cast; omega) h1 h0 (by omega)
  omega
theorem ready_prog (g : Good d l) (hl : l.length ≤ 11) (ha : 0 ≤ at_ ∧ at_ ≤ 1000000000000) : Ready far Wm (nN d l id at_) (edgesF d l id at_) :=
  ⟨by unfold Wm; omega, eok_prog g ha, room (N := 274) (M := 18518) (by have := nN_le (d := d) (l := l) (id := id) (at_ := at_) hl g.few; omega) (by have := edges_len (d := d) (l := l) (id := id) (at_ := at_) hl g.few; omega) (by decide), by unfold nN; omega⟩
theorem Ready.rng {F W : Int} {n : Nat} {es : List Ed} (h : Ready F W n es) {v : Int} (h0 : 0 ≤ v) (hn : v < n) : -F ≤ val (relaxN F es (n + 1) (Bd.fromD F n 0)).1 v ∧ val (relaxN F es (n + 1) (Bd.fromD F n 0)).1 v ≤ F := by
  have hp := h.pos
  obtain ⟨⟨B', i1, i2⟩, _, _⟩ := relaxN_spec h.hW h.ok (n + 1) 0 (Bd.fromD F n 0) (Int.le_refl _) (h.fromD_ (Int.le_refl 0) (by omega)) (by have := h.room; omega)
  have := i1.bnd.at h0 (by rw [i1.inv.len]; exact hn)
  have := h.room
  have := h.hW
  have := h.F0
  omega
theorem rel_len {F W : Int} {n : Nat} {es : List Ed} (h : Ready F W n es) : (relaxN F es (n + 1) (Bd.fromD F n 0)).1.length = n := by
  have hp := h.pos
  obtain ⟨⟨B', i1, i2⟩, _, _⟩ := relaxN_spec h.hW h.ok (n + 1) 0 (Bd.fromD F n 0) (Int.le_refl _) (h.fromD_ (Int.le_refl 0) (by omega)) (by have := h.room; omega)
  exact i1.inv.len
theorem ready_turn {F W : Int} {n : Nat} {es : List Ed} (h : Ready F W n es) (b : Bool) : Ready F W n (turn b es) := by
  cases b
  · exact h
  · exact h.swap
theorem key_in (hid : ∃ x ∈ d, x.id = id) : (id, at_) ∈ nds d l id at_ := mem_nds.2 ⟨hid, mem_ptsQ.2 (.inr ⟨rfl, rfl⟩)⟩
end
end Bd
end Go.Proofs.Ytaglpampidlbmaa
