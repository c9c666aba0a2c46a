/- Sorting indices by their spans, sorting ints: rows of the call's own, by the kit's contracts. Conditions: what each theorem states. -/
import Derived.Test.YtbdfhiihaemjhaaItLay
import Derived.Test.YtbdfhiihaemjhaaItWalk
import Derived.Test.YtbdfhiihaemjhaaSortK
import Derived.Sort.OwnSortedInts
namespace Go.Proofs.Ytbdfhiihaemjhaa
open Go Go.Shelf Go.RowKit Go.Lib Go.Sort Go.Proofs Go.Eng
section
variable {α : Type} [Inhabited α] {enc : α → Value}
theorem grown_sort1 {w : World} {g n : Nat} {os : Array Obj} (d : Array α) : Gr w (sortWorld enc w g 0 n d os) (some g) := by
  unfold sortWorld
  refine ⟨⟨rfl, rfl, rfl, by simp, fun k hk hne => ?_⟩, Nat.le_add_right _ _⟩
  rw [heap_grow_old _ _ (by simpa using hk)]
  have : g ≠ k := fun e => hne (by rw [e])
  simp [putRow, mapBlock, Sort.ahead, Array.getElem?_modify, this]
theorem own_sort1 {w : World} {base g cap n e : Nat} {os : Array Obj} {cur : Array Value} {m : Nat} {ts : List α} (hl : ts.length = m) (hbase : base ≤ g) (hb : w.heap[g]? = some (.cells cur e (0, 0)))
    (h1 : m ≤ cap) (h2 : cap ≤ maxLen) (h3 : cur.size = cap * 1) : (sortWorld enc w g 0 n ts.toArray os).ownsRow base e 1 (.slice (some ⟨g, 0, none⟩) m cap) m (ts.map enc) := by
  have hg : g < w.heap.size := (Array.getElem?_eq_some_iff.1 hb).1
  have hh : (sortWorld enc w g 0 n ts.toArray os).heap[g]? = some (.cells (putCells enc 0 ts.toArray cur) e (0, 0)) := by
    unfold sortWorld
    rw [heap_grow_old _ _ (by simpa using hg)]
    simp [putRow, mapBlock, Sort.ahead, Array.getElem?_modify, hb, onCells]
  refine ⟨by simp [hl], .inr ⟨g, cap, _, rfl, hbase, hh, h1, h2, by simp [putCells, h3], ?_⟩⟩
  rw [Nat.mul_one, ← hl]
  apply List.ext_getElem?
  intro j
  by_cases hj : j < ts.length
  · rw [List.getElem?_take_of_lt hj, Array.getElem?_toList]
    simp [putCells, hj, show j < cur.size by omega]
  · rw [List.getElem?_take_eq_none (by omega), List.getElem?_eq_none (by simp; omega)]
theorem holds_own1 {w : World} {g e : Nat} {cur : Array Value} {ss : List α} (hb : w.heap[g]? = some (.cells cur e (0, 0))) (ht : cur.toList.take ss.length = ss.map enc) : Holds enc w g 0 ss.toArray := by
  intro j hj
  have hj' : j < ss.length := by simpa using hj
  refine ⟨?_, by simp [World.frozen?, hb]⟩
  have h1 : (cur.toList.take ss.length)[j]? = (ss.map enc)[j]? := by rw [ht]
  rw [List.getElem?_take_of_lt hj'] at h1
  simp only [World.cell?, hb, Nat.zero_add]
  simp only [Option.isSome_none, Bool.false_eq_true, if_false]
  rw [← Array.getElem?_toList, h1]
  simp [hj']
end
namespace It
open Sp
def encF (m : Nat) (x : Fin (m + 1)) : Value := .int .i64 ((x.val : Nat) : Int)
def cfF (l : List S) (m : Nat) (x y : Fin (m + 1)) : Int := cmpL l x.val y.val
theorem ltF_eq (l : List S) (m : Nat) (x y : Fin (m + 1)) : ltOf (cfF l m) x y = bef l x.val y.val := by unfold ltOf cfF; exact cmpL_lt l _ _
theorem swoF (l : List S) (m : Nat) : SWO (ltOf (cfF l m)) where
  irrefl x := by rw [ltF_eq]; exact bef_irr l _
  trans x y z h1 h2 := by rw [ltF_eq] at *; exact bef_trans h1 h2
  ntrans x y z h1 h2 := by
    rw [ltF_eq] at *
    cases h : bef l x.val z.val with
    | false => rfl
    | true =>
      by_cases hxy : x.val = y.val
      · rw [← hxy, h] at h2; cases h2
      · have h3 := bef_tot hxy h1
        have := bef_trans h3 h
        rw [h2] at this; cases this
theorem totF (l : List S) (m : Nat) (x y : Fin (m + 1)) (h1 : ltOf (cfF l m) x y = false) (h2 : ltOf (cfF l m) y x = false) : x = y := by
  rw [ltF_eq] at *
  refine Classical.byContradiction fun hne => ?_
  have := bef_tot (l := l) (fun e => hne (Fin.ext e)) h1
  rw [h2] at this; cases this
theorem finL (m : Nat) : (List.finRange (m + 1)).map (fun x => (x.val : Nat)) = List.range (m + 1) := by
  apply List.ext_getElem
  · simp
  · intro i h1 h2; simp
theorem sortF (l : List S) (m : Nat) : ((List.finRange (m + 1)).mergeSort fun x y => !(ltOf (cfF l m)) y x).map (fun x => (x.val : Nat)) = ordN l (m + 1) := by
  have hp := List.mergeSort_perm (List.finRange (m + 1)) fun x y => !(ltOf (cfF l m)) y x
  refine ordN_eq ?_ fun x => ?_
  · have h1 := List.pairwise_mergeSort (le := fun x y : Fin (m + 1) => !(ltOf (cfF l m)) y x) (fun a b c h1 h2 => by
      have h1 := not_t h1
      have h2 := not_t h2
      have := (swoF l m).ntrans c b a h2 h1
      simp [this]) (fun a b => by
      cases h : ltOf (cfF l m) a b with
      | false => simp
      | true =>
        have : ltOf (cfF l m) b a = false := by
          cases hh : ltOf (cfF l m) b a with
          | false => rfl
          | true => have := (swoF l m).trans _ _ _ h hh; rw [(swoF l m).irrefl] at this; cases this
        simp [this]) (List.finRange (m + 1))
    have hnd : ((List.finRange (m + 1)).mergeSort fun x y => !(ltOf (cfF l m)) y x).Nodup := hp.nodup_iff.2 (List.nodup_finRange _)
    unfold Up
    rw [List.pairwise_map]
    exact h1.imp₂ (fun a b h2 (h3 : a ≠ b) => by
      have h2 := not_t h2
      rw [ltF_eq] at h2
      exact bef_tot (fun e => h3 (Fin.ext e.symm)) h2) hnd
  · rw [List.mem_map]
    constructor
    · rintro ⟨y, _, rfl⟩; exact y.isLt
    · intro hx; exact ⟨⟨x, hx⟩, hp.mem_iff.2 (List.mem_finRange _), rfl⟩
end It
theorem flat_ic (l : List Int) : l.flatMap Sp.ic = l.map (Value.int .i64) := by
  induction l with
  | nil => rfl
  | cons x r ih => simp [Sp.ic, ih]
/-- The indices 0, 1, .., sorted by their spans. -/
theorem sortI_row (wb w : World) (v : Value) (g0 : Nat) (A_l : Option Addr) (n_l c_l : Nat) (l : List Sp.S) (n : Nat) (xW : Ext wb w) (h : Ls wb A_l n_l c_l Sp.S.c 2 l) (m0 : Blk w g0 22 [.slice A_l n_l c_l]) (hn : n = n_l) (hl : n ≤ 100000)
    (ow : OwnL w wb.heap.size 3 Sp.ic 1 v ((List.range n).map fun x : Nat => (x : Int))) (r : v.ownBlock ≠ some g0) :
    Calls Try.prog 23 #[v, .func (.func 24) #[] #[.pointer (some ⟨g0, 0, none⟩)]] w fun e w' => e = .returned (.tuple #[]) ∧ OwnL w' wb.heap.size 3 Sp.ic 1 v (It.ord l n) ∧ Gr w w' v.ownBlock := by
  cases n with
  | zero =>
    have he : (It.ord l 0) = [] := List.eq_nil_of_length_eq_zero (It.ord_len l 0)
    rw [he]
    obtain ⟨A, cap, rfl, _, _⟩ := ow.form
    refine (AnyF.slices_SortFunc_none (P := Try.prog) (ρ := Try.sortI_ren) { Try.sortI with } A cap _ w).mono fun e w' ⟨he, hw⟩ => ?_
    subst hw
    exact ⟨he, by simpa using ow, Gr.refl _ _⟩
  | succ m =>
    have hlen : ((List.range (m + 1)).map fun x : Nat => (x : Int)).length = m + 1 := by simp
    rcases ow.2 with ⟨rfl, h0⟩ | ⟨g, cap, cur, rfl, h1, h2, h3, h4, h5, h6⟩
    · rw [hlen] at h0; omega
    · rw [hlen] at h3 h6 ⊢
      have hg : g < w.heap.size := (Array.getElem?_eq_some_iff.1 h2).1
      have hne : g ≠ g0 := fun e => r (by rw [e]; rfl)
      have hfl : ((List.range (m + 1)).map fun x : Nat => (x : Int)).flatMap Sp.ic = (List.finRange (m + 1)).map (It.encF m) := by
        rw [flat_ic, ← It.finL]; simp [It.encF]
      have h6' : cur.toList.take (List.finRange (m + 1)).length = (List.finRange (m + 1)).map (It.encF m) := by rw [List.length_finRange, ← hfl, ← h6, Nat.mul_one]
      have hcmp : CmpLays1 Try.prog 24 #[.pointer (some ⟨g0, 0, none⟩)] (It.encF m) (It.cfF l m) g 0 (List.finRange (m + 1)).toArray.size w := fun k os dk _ x y => by
        have gr := grown_sort1 (enc := It.encF m) (w := w) (g := g) (n := k) (os := os) dk
        have xS : Ext wb (sortWorld (It.encF m) w g 0 k dk os) := Ext.grown xW gr fun b hb => by injection hb with hb; omega
        refine (ItW.less_any x.val y.val g0 A_l n_l c_l l _ (m0.grown gr fun e => hne (by injection e)) (h.ext xS) (by have := x.isLt; omega) (by have := y.isLt; omega)).mono fun e w' ⟨he, hx⟩ => ⟨he, hx.grow⟩
      have hcon := Any.slices_SortFunc_total (P := Try.prog) (ρ := Try.sortI_ren) Try.sortI (It.encF m) (fun _ => rfl) (It.cfF l m) (It.swoF l m) 24 #[.pointer (some ⟨g0, 0, none⟩)] g 0 cap (List.finRange (m + 1)).toArray w (enters_of Try.func24 (by kernel_rfl) rfl) hcmp (holds_own1 h2 h6') hg (by simp; omega) (It.totF l m)
      have hsz : (List.finRange (m + 1)).toArray.size = m + 1 := by simp
      rw [hsz] at hcon
      refine Calls.mono (show Calls Try.prog 23 #[.slice (some ⟨g, 0, none⟩) (m + 1) cap, .func (.func 24) #[] #[.pointer (some ⟨g0, 0, none⟩)]] w _ from hcon) fun e w' hw => ?_
      obtain ⟨he, k, os, rfl⟩ := hw
      refine ⟨he, ?_, grown_sort1 _⟩
      have ho := own_sort1 (enc := It.encF m) (w := w) (base := wb.heap.size) (n := k) (os := os) (m := m + 1) (ts := (List.finRange (m + 1)).mergeSort fun x y => !(ltOf (It.cfF l m)) y x) (by rw [List.length_mergeSort, List.length_finRange]) h1 h2 h3 h4 h5
      unfold OwnL
      rw [It.ord_len, flat_ic]
      have e1 : (It.ord l (m + 1)).map (Value.int .i64) = ((List.finRange (m + 1)).mergeSort fun x y => !(ltOf (It.cfF l m)) y x).map (It.encF m) := by
        unfold It.ord
        rw [← It.sortF]
        simp [It.encF]
      rw [e1]
      exact ho
theorem sort_row (v : Value) (base : Nat) (l : List Int) (w : World) (ow : OwnL w base 3 Sp.ic 1 v l) (hl : l.length ≤ 200000) : Calls Try.prog 42 #[v] w fun e w' => e = .returned (.tuple #[]) ∧ OwnL w' base 3 Sp.ic 1 v (Inc.srt l) ∧ Gr w w' v.ownBlock := by
  have hlen := Inc.srt_len l
  have ow0 := ow
  rcases ow.2 with ⟨rfl, h0⟩ | ⟨g, cap, cur, rfl, h1, h2, h3, h4, h5, h6⟩
  · refine (Any.slices_Sort_int_none Try.lays189 none 0 w).mono fun e w' ⟨he, hw⟩ => ?_
    subst hw
    have hn : l = [] := List.eq_nil_of_length_eq_zero h0
    subst hn
    exact ⟨he, by rw [show Inc.srt [] = [] from by unfold Inc.srt; simp]; exact ow0, Gr.refl _ _⟩
  · have h6' : cur.toList.take l.length = l.map (Value.int .i64) := by rw [← flat_ic, ← h6, Nat.mul_one]
    have hg : g < w.heap.size := (Array.getElem?_eq_some_iff.1 h2).1
    refine (Any.slices_Sort_int Try.lays189 g 0 cap l w (holds_of_blockI h2 h6') hg (by omega)).mono fun e w' hw => ?_
    obtain ⟨he, n, os, rfl⟩ := hw
    refine ⟨he, ?_, ⟨grownBy_sortedI _, Nat.le_add_right _ _⟩⟩
    have := ownsRow_sortedI (w := w) (n := n) (os := os) (base := base) (ss := l) (ts := Inc.srt l) hlen h1 h2 h3 h4 (by rw [h5])
    unfold OwnL
    rw [flat_ic, hlen]
    exact this
end Go.Proofs.Ytbdfhiihaemjhaa
