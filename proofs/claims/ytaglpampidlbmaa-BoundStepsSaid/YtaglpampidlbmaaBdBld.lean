/- How the graph grows: nodes and edges so far; the numbers of nodes. Conditions: what each theorem states. -/
import Derived.Test.YtaglpampidlbmaaBdM4
import Derived.Test.YtaglpampidlbmaaBdM1
namespace Go.Proofs.Ytaglpampidlbmaa
open Go Go.Eng Go.RowKit
set_option linter.unusedVariables false
namespace Bd
def ndsN (d : List Ck.Dom) (l : List Ck.Snap) (id at_ : Int) (i : Nat) : List Key := (d.take i).flatMap (nodX l id at_)
def edN (d : List Ck.Dom) (l : List Ck.Snap) (id at_ : Int) (i : Nat) : List Ed := (d.take i).flatMap (eDom (nds d l id at_) l id at_)
def nodP (l : List Ck.Snap) (id at_ : Int) (x : Ck.Dom) (j : Nat) : List Key := ((ptsQ l x.id id at_).take j).map fun p => (x.id, p)
def ePr (n : List Key) (x : Ck.Dom) (ps : List Int) (j k : Nat) : List Ed := ((ps.take j).take k).flatMap fun q => [⟨nix n (x.id, q), nix n (x.id, ps[j]!), (Iv.stretchF (ps[j]! - q) x.ppm).1.2⟩, ⟨nix n (x.id, ps[j]!), nix n (x.id, q), -(Iv.stretchF (ps[j]! - q) x.ppm).1.1⟩]
section
variable {d : List Ck.Dom} {l : List Ck.Snap} {id at_ : Int} {i j k : Nat}
theorem nodP_zero (x : Ck.Dom) : nodP l id at_ x 0 = [] := by simp [nodP]
theorem nodP_next {x : Ck.Dom} (hj : j < (ptsQ l x.id id at_).length) : nodP l id at_ x (j + 1) = nodP l id at_ x j ++ [(x.id, (ptsQ l x.id id at_)[j]!)] := by
  unfold nodP
  rw [take_bang hj, List.map_append]; rfl
theorem nodP_all {x : Ck.Dom} (hj : (ptsQ l x.id id at_).length ≤ j) : nodP l id at_ x j = nodX l id at_ x := by
  unfold nodP nodX
  rw [List.take_of_length_le hj]
theorem ndsN_next (hi : i < d.length) : ndsN d l id at_ (i + 1) = ndsN d l id at_ i ++ nodX l id at_ d[i]! := by
  unfold ndsN
  rw [take_bang hi, List.flatMap_append]; simp
theorem ndsN_all (hi : d.length ≤ i) : ndsN d l id at_ i = nds d l id at_ := by unfold ndsN nds; rw [List.take_of_length_le hi]
theorem nds_split (hi : i < d.length) (j : Nat) : ∃ b, nds d l id at_ = (ndsN d l id at_ i ++ nodP l id at_ d[i]! j) ++ b ∧ (j < (ptsQ l d[i]!.id id at_).length → ∃ b', b = (d[i]!.id, (ptsQ l d[i]!.id id at_)[j]!) :: b') := by
  have e : nds d l id at_ = ndsN d l id at_ i ++ (nodX l id at_ d[i]! ++ (d.drop (i + 1)).flatMap (nodX l id at_)) := by
    unfold nds ndsN
    have : d = d.take i ++ d[i]! :: d.drop (i + 1) := by rw [← drop_bang hi, List.take_append_drop]
    conv => lhs; rw [this]
    rw [List.flatMap_append, List.flatMap_cons]
  have e2 : nodX l id at_ d[i]! = nodP l id at_ d[i]! j ++ ((ptsQ l d[i]!.id id at_).drop j).map fun p => (d[i]!.id, p) := by
    unfold nodX nodP
    rw [← List.map_append, List.take_append_drop]
  refine ⟨((ptsQ l d[i]!.id id at_).drop j).map (fun p => (d[i]!.id, p)) ++ (d.drop (i + 1)).flatMap (nodX l id at_), by rw [e, e2]; simp [List.append_assoc], fun hj => ?_⟩
  rw [drop_bang hj, List.map_cons, List.cons_append]
  exact ⟨_, rfl⟩
theorem nds_fresh (g : Good d l) (hi : i < d.length) (hj : j < (ptsQ l d[i]!.id id at_).length) : (d[i]!.id, (ptsQ l d[i]!.id id at_)[j]!) ∉ ndsN d l id at_ i ++ nodP l id at_ d[i]! j := by
  intro hm
  rcases List.mem_append.1 hm with hm | hm
  · unfold ndsN at hm
    obtain ⟨y, hy, hk⟩ := List.mem_flatMap.1 hm
    unfold nodX at hk
    obtain ⟨p, _, he⟩ := List.mem_map.1 hk
    have he1 : y.id = d[i]!.id := congrArg Prod.fst he
    obtain ⟨a, ha, rfl⟩ := List.mem_iff_getElem.1 hy
    rw [List.length_take] at ha
    rw [List.getElem_take] at he1
    have hnd := g.nd
    rw [getElem!_pos d i hi] at he1
    have := (List.getElem_inj (xs := d.map (·.id)) (h₀ := by simp; omega) (h₁ := by simpa using hi) (i := a) (j := i) hnd).1 (by simpa using he1)
    omega
  · unfold nodP at hm
    obtain ⟨p, hp, he⟩ := List.mem_map.1 hm
    have he2 : p = (ptsQ l d[i]!.id id at_)[j]! := congrArg Prod.snd he
    have := ((mem_take_inc (inc_ptsQ _) hj).1 hp).2
    omega
theorem nod_in (hk : k < ((ptsQ l d[i]!.id id at_).take j).length) : (d[i]!.id, ((ptsQ l d[i]!.id id at_).take j)[k]!) ∈ ndsN d l id at_ i ++ nodP l id at_ d[i]! (j + 1) := by
  refine List.mem_append_right _ ?_
  unfold nodP
  refine List.mem_map.2 ⟨_, ?_, rfl⟩
  have := bang_mem hk
  exact List.take_subset_take_left _ (by omega) this
theorem snap_in (g : Good d l) {q : Nat} (hq : q < l.length) (hi : d.length ≤ i) : (l[q]!.a, l[q]!.ata) ∈ ndsN d l id at_ i ∧ (l[q]!.b, l[q]!.lo) ∈ ndsN d l id at_ i ∧ (l[q]!.b, l[q]!.hi) ∈ ndsN d l id at_ i := by
  rw [ndsN_all hi]
  exact snap_nds g (bang_mem hq)
theorem edN_next (hi : i < d.length) : edN d l id at_ (i + 1) = edN d l id at_ i ++ eDom (nds d l id at_) l id at_ d[i]! := by
  unfold edN
  rw [take_bang hi, List.flatMap_append]; simp
theorem ePts_next (n : List Key) (x : Ck.Dom) (ps : List Int) : ePts n x ps (j + 1) = ePts n x ps j ++ ePt n x ps j := by
  unfold ePts
  rw [List.range_succ, List.flatMap_append]; simp
theorem ePr_next {n : List Key} {x : Ck.Dom} {ps : List Int} (hk : k < (ps.take j).length) : ePr n x ps j (k + 1) = ePr n x ps j k ++ [⟨nix n (x.id, (ps.take j)[k]!), nix n (x.id, ps[j]!), (Iv.stretchF (ps[j]! - (ps.take j)[k]!) x.ppm).1.2⟩, ⟨nix n (x.id, ps[j]!), nix n (x.id, (ps.take j)[k]!), -(Iv.stretchF (ps[j]! - (ps.take j)[k]!) x.ppm).1.1⟩] := by
  unfold ePr
  rw [take_bang hk, List.flatMap_append]; simp
theorem ePt_one {n : List Key} {x : Ck.Dom} {ps : List Int} (h0 : x.id ≠ 0) (hk : (ps.take j).length ≤ k) : ePr n x ps j k = ePt n x ps j := by
  unfold ePr ePt
  rw [if_neg h0, List.take_of_length_le hk]
theorem ePt_zero {n : List Key} {x : Ck.Dom} {ps : List Int} (h0 : x.id = 0) : ePt n x ps j = [⟨0, nix n (x.id, ps[j]!), ps[j]!⟩, ⟨nix n (x.id, ps[j]!), 0, -ps[j]!⟩] := by
  unfold ePt
  rw [if_pos h0]
theorem ptsQ_len {q : Int} : (ptsQ l q id at_).length ≤ 3 * l.length + 1 := by
  unfold ptsQ
  split
  · have := Ck.put_len (Ck.pts l q) at_
    have := Ck.pts_len l q
    omega
  · have := Ck.pts_len l q
    omega
theorem flat_len {α β : Type} {f : α → List β} {B : Nat} : ∀ (l : List α), (∀ x ∈ l, (f x).length ≤ B) → (l.flatMap f).length ≤ l.length * B
  | [], _ => by simp
  | x :: r, h => by
    have := flat_len r fun y hy => h y (by simp [hy])
    have := h x (by simp)
    rw [List.flatMap_cons, List.length_append, List.length_cons, Nat.succ_mul]; omega
theorem ePr_len {n : List Key} {x : Ck.Dom} {ps : List Int} {B : Nat} (h : ps.length ≤ B) : (ePr n x ps j k).length ≤ B * 2 := by
  unfold ePr
  refine Nat.le_trans (flat_len (B := 2) _ fun q _ => by simp) (Nat.mul_le_mul_right 2 ?_)
  simp only [List.length_take]; omega
theorem ePt_len {n : List Key} {x : Ck.Dom} {ps : List Int} {B : Nat} (h : ps.length ≤ B) (hB : 1 ≤ B) : (ePt n x ps j).length ≤ B * 2 := by
  unfold ePt
  split
  · simp; omega
  · refine Nat.le_trans (flat_len (B := 2) _ fun q _ => by simp) (Nat.mul_le_mul_right 2 ?_)
    simp only [List.length_take]; omega
theorem ePts_len {n : List Key} {x : Ck.Dom} {ps : List Int} {B : Nat} (h : ps.length ≤ B) (hB : 1 ≤ B) (hj : j ≤ B) : (ePts n x ps j).length ≤ B * (B * 2) := by
  unfold ePts
  refine Nat.le_trans (flat_len (B := B * 2) _ fun q _ => ePt_len h hB) (Nat.mul_le_mul_right _ ?_)
  simpa using hj
theorem eDom_len {n : List Key} {x : Ck.Dom} {B : Nat} (h : 3 * l.length + 1 ≤ B) : (eDom n l id at_ x).length ≤ B * (B * 2) := by
  have := ptsQ_len (l := l) (id := id) (at_ := at_) (q := x.id)
  exact ePts_len (by omega) (by omega) (by omega)
theorem edN_len {B : Nat} (h : 3 * l.length + 1 ≤ B) (hd : d.length ≤ 8) : (edN d l id at_ i).length ≤ 8 * (B * (B * 2)) := by
  unfold edN
  refine Nat.le_trans (flat_len (B := B * (B * 2)) _ fun x _ => eDom_len h) (Nat.mul_le_mul_right _ ?_)
  rw [List.length_take]; omega
theorem ndsN_len {B : Nat} (h : 3 * l.length + 1 ≤ B) (hd : d.length ≤ 8) : (ndsN d l id at_ i).length ≤ 8 * B := by
  unfold ndsN
  refine Nat.le_trans (flat_len (B := B) _ fun x _ => ?_) (Nat.mul_le_mul_right _ ?_)
  · unfold nodX; rw [List.length_map]; have := ptsQ_len (l := l) (id := id) (at_ := at_) (q := x.id); omega
  · rw [List.length_take]; omega
theorem nodP_len {x : Ck.Dom} : (nodP l id at_ x j).length ≤ 3 * l.length + 1 := by
  unfold nodP
  rw [List.length_map, List.length_take]
  have := ptsQ_len (l := l) (id := id) (at_ := at_) (q := x.id); omega
theorem snaps_len {n : List Key} {m : List Ck.Snap} : (m.flatMap (eSnap n)).length ≤ m.length * 2 := flat_len _ fun s _ => by simp [eSnap]
theorem inc_pts' {x : Int} : Ck.Inc (Ck.pts l x) := Ck.inc_puts _
theorem inc_of_le {zs : List Int} (h : zs.Pairwise (· ≤ ·)) (hn : zs.Nodup) : Ck.Inc zs := by
  unfold Ck.Inc
  rw [List.nodup_iff_pairwise_ne] at hn
  exact (h.and hn).imp fun ⟨a, b⟩ => by omega
theorem srt_put {ps : List Int} {n : Int} (h : Ck.Inc ps) (hn : n ∉ ps) : Ck.srt (ps ++ [n]) = Ck.put ps n := by
  have hps : ps.Nodup := by
    rw [List.nodup_iff_pairwise_ne]
    exact h.imp fun hab => by omega
  have hnd : (ps ++ [n]).Nodup := by
    rw [List.nodup_append]
    refine ⟨hps, by simp, fun a ha b hb => ?_⟩
    have : b = n := by simpa using hb
    subst this; rintro rfl; exact hn ha
  have hs : (Ck.srt (ps ++ [n])).Nodup := (List.mergeSort_perm _ _).nodup_iff.2 hnd
  refine Ck.inc_unique _ _ (inc_of_le (Ck.srt_sorted _) hs) (Ck.inc_put _ _ h) fun q => ?_
  rw [Ck.srt_mem, Ck.mem_put]
  simp [or_comm]
theorem ptsQ_yes {x : Int} (h : (x == id && !decide (at_ ∈ Ck.pts l x)) = true) : Ck.srt (Ck.pts l x ++ [at_]) = ptsQ l x id at_ := by
  simp only [Bool.and_eq_true, beq_iff_eq, Bool.not_eq_true', decide_eq_false_iff_not] at h
  unfold ptsQ
  rw [if_pos h.1, srt_put inc_pts' h.2]
theorem put_mem {ps : List Int} {n : Int} (h : Ck.Inc ps) (hn : n ∈ ps) : Ck.put ps n = ps :=
  Ck.inc_unique _ _ (Ck.inc_put _ _ h) h fun q => by
    rw [Ck.mem_put]
    constructor
    · rintro (rfl | h)
      · exact hn
      · exact h
    · exact .inr
theorem ptsQ_no {x : Int} (h : (x == id && !decide (at_ ∈ Ck.pts l x)) = false) : Ck.srt (Ck.pts l x) = ptsQ l x id at_ := by
  rw [srt_inc inc_pts']
  unfold ptsQ
  split
  · rename_i he
    have : decide (at_ ∈ Ck.pts l x) = true := by
      rw [he] at h
      simpa [he] using h
    rw [put_mem inc_pts' (of_decide_eq_true this)]
  · rfl
/-- A node that has a number: what the map says. -/
theorem get_in {A N b : List Key} {k : Key} (hN : N = A ++ b) (h : k ∈ A) : pget (numF 0 A) k = some (.int .i64 (nix N k)) := by
  rw [numF_get, if_pos h, hN, nix_pre h]
  unfold nix
  congr 2
  omega
theorem get_new {A : List Key} {k : Key} (h : k ∉ A) : pget (numF 0 A) k = none := by rw [numF_get, if_neg h]
end
end Bd
namespace BdW
open N
theorem number_at (wb : World) (g0 g1 : Nat) (o_g1 : wb.heap.size ≤ g1) (n_g0_g1 : g0 ≠ g1) (v : Value) (A N b : List Bd.Key) (x y : Int) (w : World) (xW : Ext wb w) (m0 : Blk w g0 85 [.map (some g1), v]) (mm : MpP w g1 (Bd.numF 0 A)) (hN : N = A ++ (x, y) :: b) (hk : (x, y) ∉ A) (hl : A.length ≤ 100000) :
    Calls Try.prog 27 #[.pointer (some ⟨g0, 0, none⟩), .int .i64 x, .int .i64 y] w fun e w' => e = .returned (.int .i64 (Bd.nix N (x, y))) ∧ Only g1 w w' ∧ MpP w' g1 (Bd.numF 0 (A ++ [(x, y)])) := by
  refine (number_new wb g0 g1 o_g1 n_g0_g1 v (Bd.numF 0 A) x y w xW m0 mm (Bd.get_new hk) (by rw [Bd.numF_len]; exact hl)).mono fun e w' ⟨h1, h2, h3⟩ => ⟨?_, h2, ?_⟩
  · rw [h1, hN, Bd.nix_new hk, Bd.numF_len]
  · rw [Bd.numF_push]; exact h3
theorem number_in (g0 g1 : Nat) (v : Value) (A N b : List Bd.Key) (x y : Int) (w : World) (m0 : Blk w g0 85 [.map (some g1), v]) (mm : MpP w g1 (Bd.numF 0 A)) (hN : N = A ++ b) (hk : (x, y) ∈ A) :
    Calls Try.prog 27 #[.pointer (some ⟨g0, 0, none⟩), .int .i64 x, .int .i64 y] w fun e w' => e = .returned (.int .i64 (Bd.nix N (x, y))) ∧ Ext w w' :=
  number_has g0 g1 v (Bd.numF 0 A) x y _ w m0 mm (Bd.get_in hN hk)
end BdW
end Go.Proofs.Ytaglpampidlbmaa
