/- Sorting spans by their beginnings, sorting and compacting ints: rows of the call's own, by the kit's contracts. Conditions: what each theorem states. -/
import Derived.Test.YtbdfhiihaemjhaaItMLay
import Derived.Test.YtbdfhiihaemjhaaItSort
import Derived.Test.YtbdfhiihaemjhaaIncC
import Derived.Test.YtbdfhiihaemjhaaSortK
import Derived.Shelf.SlicesG.Cmp
import Derived.Shelf.Slices.In.SortNone
import Derived.Sort.OwnSortedInts
namespace Go.Proofs.Ytbdfhiihaemjhaa
open Go Go.Shelf Go.RowKit Go.Lib Go.Sort Go.Proofs Go.Eng
namespace Sp
def ltF (x y : S) : Bool := ltOf (fun x y : S => Lib.compareInt x.f y.f) x y
theorem ltF_eq (x y : S) : ltF x y = decide (x.f < y.f) := by
  unfold ltF ltOf Lib.compareInt
  by_cases h1 : x.f < y.f
  · simp [h1]
  · by_cases h2 : y.f < x.f <;> simp [h1, h2]
theorem swo : SWO ltF where
  irrefl x := by rw [ltF_eq]; simp
  trans x y z h1 h2 := by rw [ltF_eq] at *; simp at *; omega
  ntrans x y z h1 h2 := by rw [ltF_eq] at *; simp at *; omega
def srtS (l : List S) : List S := srtBy ltF l
theorem srtS_len (l : List S) : (srtS l).length = l.length := srtBy_len ltF swo l
theorem srtS_perm (l : List S) : (srtS l).Perm l := (srtBy_sorts ltF swo l).1
theorem srtS_up (l : List S) : (srtS l).Pairwise fun a b => a.f ≤ b.f := by
  rw [List.pairwise_iff_getElem]
  intro i j hi hj hij
  have := (srtBy_sorts ltF swo l).2 i j hij (by rw [← srtS_len]; exact hj)
  rw [ltF_eq] at this
  have := of_decide_eq_false this
  have e1 : (srtBy ltF l)[i]! = (srtS l)[i] := getElem!_pos (srtS l) i hi
  have e2 : (srtBy ltF l)[j]! = (srtS l)[j] := getElem!_pos (srtS l) j hj
  rw [e1, e2] at this
  omega
theorem join_norm (l : List S) : (srtS (l.filter ok)).foldl step [] = norm l := norm_of_perm (srtS_perm _) (srtS_up _)
end Sp
set_option maxHeartbeats 1000000 in
theorem closureF (x y : Sp.S) (W : World) : Calls Try.prog 59 #[.agg #[.int .i64 x.f, .int .i64 x.t], .agg #[.int .i64 y.f, .int .i64 y.t]] W fun e w' => e = .returned (.int .i64 (Lib.compareInt x.f y.f)) ∧ ∃ q os', w' = grow (W.drewN q) os' := by
  have hcon := fun W' => AnyG.cmp_Compare_int Try.cmpInt x.f y.f W'
  change ∀ W', Calls Try.prog 26 _ _ _ at hcon
  generalize Lib.compareInt x.f y.f = r at hcon ⊢
  go_enter Try.func59, Try.ntmps59
  go_wp2_with (go_at_call 26; refine (hcon _).mono ?_; rintro e w' ⟨rfl, rfl⟩)
  go_ret
  exact ⟨rfl, 0, _, by rw [alloc_eq_grow, alloc_eq_grow, grow_grow]; rfl⟩
theorem cmpLaysF (blk off size : Nat) (w : World) : CmpLays Try.prog 59 #[] Sp.S.c 2 (fun x y => Lib.compareInt x.f y.f) blk off size w :=
  fun _ _ _ _ x y => closureF x y _
theorem sortS_row (v : Value) (base : Nat) (l : List Sp.S) (w : World) (ow : OwnL w base 32 Sp.S.c 2 v l) (hl : l.length ≤ 200000) : Calls Try.prog 58 #[v, .func (.func 59) #[] #[]] w fun e w' => e = .returned (.tuple #[]) ∧ OwnL w' base 32 Sp.S.c 2 v (Sp.srtS l) ∧ Gr w w' v.ownBlock := by
  have hlen := Sp.srtS_len l
  rcases ow.2 with ⟨rfl, h0⟩ | ⟨g, cap, cur, rfl, h1, h2, h3, h4, h5, h6⟩
  · refine (AnyF.slices_SortFunc_none (P := Try.prog) (ρ := Try.sortS_ren) { Try.sortS with } none 0 (.func (.func 59) #[] #[]) w).mono fun e w' ⟨he, hw⟩ => ?_
    subst hw
    have hn : l = [] := List.eq_nil_of_length_eq_zero h0
    subst hn
    have e0 : Sp.srtS [] = [] := List.eq_nil_of_length_eq_zero hlen
    exact ⟨he, by rw [e0]; exact ow, Gr.refl _ _⟩
  · have hg : g < w.heap.size := (Array.getElem?_eq_some_iff.1 h2).1
    have hcon := AnyQ.slices_SortFunc_eq (P := Try.prog) (ρ := Try.sortS_ren) { Try.sortS with } 2 Try.isAgg32 Try.sizeOf32 Sp.S.c (fun _ => rfl) Sp.S.one (fun x y => Lib.compareInt x.f y.f) Sp.swo 59 #[] g 0 cap l.toArray w (enters_of Try.func59 (by kernel_rfl) rfl) (cmpLaysF g 0 _ w) (holdsK_own (f := Sp.S.c) (sz := 2) (l := l) (fun _ => rfl) (by decide) h2 h6) hg (by simp; omega)
    refine Calls.mono (show Calls Try.prog 58 #[.slice (some ⟨g, 0, none⟩) l.length cap, .func (.func 59) #[] #[]] w _ from hcon) fun e w' hw => ?_
    obtain ⟨he, n, os, rfl⟩ := hw
    refine ⟨he, ?_, grown_sortK _⟩
    exact own_sortK (f := Sp.S.c) (fun _ => rfl) (by decide) (ss := l) (ts := Sp.srtS l) hlen h1 h2 h3 h4 h5
theorem compact_le (l : List Int) : (Lib.compact l).length ≤ l.length := by
  unfold Lib.compact Lib.compactUpTo
  rw [List.length_map]
  exact Nat.le_trans (List.length_filter_le _ _) (by simp)
theorem compact_row (v : Value) (base : Nat) (l : List Int) (w : World) (ow : OwnL w base 3 Sp.ic 1 v l) (hl : l.length ≤ 200000) : Calls Try.prog 45 #[v] w fun e w' => ∃ v', e = .returned v' ∧ OwnL w' base 3 Sp.ic 1 v' (Lib.compact l) ∧ Gr w w' v.ownBlock ∧ v'.ownBlock = v.ownBlock := by
  have ow0 := ow
  by_cases hn : l = []
  · subst hn
    have hc : Lib.compact ([] : List Int) = [] := rfl
    rcases ow.2 with ⟨rfl, h0⟩ | ⟨g, cap, cur, rfl, h1, h2, h3, h4, h5, h6⟩
    · refine (Any.slices_Compact_int_empty Try.lays2_20 none 0 w).mono fun e w' ⟨he, hw⟩ => ?_
      subst hw
      exact ⟨_, he, by rw [hc]; exact ow0, Gr.refl _ _, rfl⟩
    · refine (Any.slices_Compact_int_empty Try.lays2_20 (some ⟨g, 0, none⟩) cap w).mono fun e w' ⟨he, hw⟩ => ?_
      subst hw
      exact ⟨_, he, by rw [hc]; exact ow0, Gr.refl _ _, rfl⟩
  · have hp : 0 < l.length := List.length_pos_iff.2 hn
    rcases ow.2 with ⟨rfl, h0⟩ | ⟨g, cap, cur, rfl, h1, h2, h3, h4, h5, h6⟩
    · omega
    · have h6' : cur.toList.take l.length = l.map (Value.int .i64) := by rw [← flat_ic, ← h6, Nat.mul_one]
      have hle := compact_le l
      refine (Any.slices_Compact_int Try.lays2_20 g 0 cap l w (holds_of_blockI h2 h6') (by omega) h3).mono fun e w' hw => ?_
      obtain ⟨he, n, hw⟩ := hw
      have hts : (Lib.compact l ++ List.replicate (l.length - (Lib.compact l).length) 0).length = l.length := by simp; omega
      have hg : Gr w _ (some g) := ⟨grownBy_sortedI (w := w) (g := g) (n := n) (os := #[]) (Lib.compact l ++ List.replicate (l.length - (Lib.compact l).length) 0).toArray, Nat.le_add_right _ _⟩
      have ho := ownsRow_sortedI (w := w) (os := #[]) (n := n) (base := base) (ss := l) (ts := Lib.compact l ++ List.replicate (l.length - (Lib.compact l).length) 0) hts h1 h2 h3 h4 (by rw [h5])
      rw [grow_empty, ← hw] at hg ho
      refine ⟨_, he, ?_, hg, rfl⟩
      have ho' := ho.2
      rcases ho' with ⟨hv, _⟩ | ⟨g', cap', cur', hv, e1, e2, e3, e4, e5, e6⟩
      · cases hv
      · cases hv
        refine ⟨by rw [flat_ic]; simp, .inr ⟨g, cap, cur', rfl, e1, e2, Nat.le_trans hle e3, e4, e5, ?_⟩⟩
        rw [flat_ic, Nat.mul_one]
        rw [Nat.mul_one] at e6
        have : cur'.toList.take (Lib.compact l).length = (cur'.toList.take l.length).take (Lib.compact l).length := by rw [List.take_take, Nat.min_eq_left hle]
        rw [this, e6, ← List.map_take, List.take_left]
/-- slices.Grow of a nil slice: a row without elements. -/
theorem grow_row (n : Nat) (w : World) (hn : n ≤ 100000) : Calls Try.prog 60 #[.slice none 0 0, .int .i64 (n : Int)] w fun e w' => ∃ v, e = .returned v ∧ OwnL w' w.heap.size 32 Sp.S.c 2 v [] ∧ Ext w w' := by
  by_cases h0 : n = 0
  · subst h0
    refine (Any8.slices_Grow_room (P := Try.prog) (ρ := Try.growS_ren) Try.growS none 0 0 0 w (by omega) (by omega) (by omega) (by omega)).mono fun e w' ⟨he, hw⟩ => ?_
    subst hw
    exact ⟨_, he, OwnL.nil_, Ext.refl _⟩
  · obtain ⟨i, hi, hz, hs, hb⟩ : TI Try.prog 32 (.agg #[.int .i64 0, .int .i64 0]) 2 16 := TI.mk (by kernel_rfl)
    refine (Any8.slices_Grow_grow (P := Try.prog) (ρ := Try.growS_ren) Try.growS i (.agg #[.int .i64 0, .int .i64 0]) hi hz (by omega) none 0 0 n [] w (by omega) (by omega) (by rw [hb]; omega) (by omega) (by simp) (fun _ => rfl) (fun a h => by cases h)).mono fun e w' ⟨he, hw⟩ => ?_
    subst hw
    have hge := grownCap_ge w (0 + n) 0 32
    have hm : grownCap w (0 + n) 0 32 ≤ maxLen := grownCap_le_maxLen w (0 + n) 0 32 (by unfold maxLen; omega)
    refine ⟨_, he, ⟨by simp, .inr ⟨w.heap.size, _, _, rfl, Nat.le_refl _, heap_alloc_new w.drew _, Nat.zero_le _, hm, ?_, by simp⟩⟩, ((Ext.refl w).drawn (Nat.le_succ _)).alloc _⟩
    simp only [Array.size_append, List.size_toArray, List.length_nil, size_zeroCells, Value.cells]
    show 0 + (0 + n - 0) * 2 + (grownCap w (0 + n) 0 32 - (0 + n)) * 2 = grownCap w (0 + n) 0 32 * 2
    omega
end Go.Proofs.Ytbdfhiihaemjhaa
