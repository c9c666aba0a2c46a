/- A map's keys, sorted, by the kit's contracts. XFlLay holds the layings
   (wip/gen/layplain.py Ytcojkflgcccjeaa 'g SlLaysZI.n7 Ggz 7 at Try 27 as Try.keysA' 'g SlLaysZI.n6 Ggz 6 at Try 26 as Try.sortedA' 'Lays.n189 Nm 189 at Try as Try.lays189' -- imports). -/
import Derived.Test.YtcojkflgcccjeaaFlLay
import Derived.Test.YtcojkflgcccjeaaMapOwn
import Derived.Test.YtcojkflgcccjeaaFlSpec
import Derived.Shelf.SlIterI.Nil
import Derived.Shelf.SlIterI.Sorted
import Derived.Shelf.Sort.Plain
import Derived.Shelf.Slices.In.SortNone
namespace Go.Proofs.Ytcojkflgcccjeaa
open Go Go.Shelf Go.RowKit Go.Maps Go.Sort Go.Proofs Go.Eng
theorem sorts (m : Nat) : AnyZI.SortsIn Try.prog Try.sortedA_ren Fence.wide m :=
  ⟨fun blk off cap ss W hH hblk hsz => callsIn_wide.2 (Any.slices_Sort_int Try.lays189 blk off cap ss W hH hblk hsz),
   fun p cap W => callsIn_wide.2 (Any.slices_Sort_int_none Try.lays189 p cap W)⟩
theorem flat_ic (l : List Int) : l.flatMap Fl.ic = l.map (Value.int .i64) := by
  induction l with
  | nil => rfl
  | cons x r ih => simp [Fl.ic, ih]
theorem sorted_any (g b : Nat) (m : List (Int × Value)) (w : World) (hg : Blk w g 57 [.map (some b)]) (hm : Mp w b m) (hf : ∀ p ∈ m, (Lit.int .i64 p.1).wf = true ∧ ∃ x, p.2 = .bool x) (hl : m.length ≤ 1000) :
    Calls Try.prog 26 #[.func (.func 35) #[] #[.pointer (some ⟨g, 0, none⟩)]] w fun e w' => ∃ v, e = .returned v ∧ OwnL w' w.heap.size 3 Fl.ic 1 v (Inc.puts (m.map (·.1))) ∧ Ext w w' := by
  obtain ⟨D0, hown, hperm, hsize⟩ := hm.owns (H := Unit) (P := Try.prog) Try.underlying3 Try.underlying4 hf (Nat.le_trans hl (by decide))
  obtain ⟨_, _, _, _, _, _, hnd⟩ := hm
  have hseq : SeqGives Fence.wide 2 Try.prog 35 #[.pointer (some ⟨g, 0, none⟩)] encZ (fun ss => ss.Perm (intKeys D0)) (Maps.size D0) w :=
    AnyZI.keys_gives (ρ := Try.keysA_ren) { Try.keysA with } Fence.wide _ trivial rfl (by omega) g b m.length D0 w hg.lt (hg.cell rfl) hown
  have cS := AnyZI.sorted_in Try.sortedA Fence.wide 5 trivial trivial trivial trivial rfl (by omega) (sorts _) (enters_of Try.func34 (by kernel_rfl) rfl) 35 #[.pointer (some ⟨g, 0, none⟩)] trivial (enters_of Try.func35 (by kernel_rfl) rfl) _ _ (Nat.le_trans (hsize ▸ hl) (by decide)) (by rw [hsize]; omega) w hseq
  change CallsIn _ _ Try.prog 26 _ _ _ at cS
  refine ((callsIn_wide (n := 5)).1 cS).mono fun e w' ⟨v, ss, he, hS, hrow, _, hb⟩ => ⟨v, he, ?_, hb⟩
  have e1 : ss.mergeSort (fun x y => decide (x ≤ y)) = Inc.puts (m.map (·.1)) := by
    rw [← Inc.srt_eq hnd]
    exact mergeSort_of_perm_i (hS.trans hperm)
  have e2 : ss.length = (Inc.puts (m.map (·.1))).length := by rw [← e1, List.length_mergeSort]
  unfold OwnL
  rw [flat_ic, ← e1, List.length_mergeSort]
  exact hrow
end Go.Proofs.Ytcojkflgcccjeaa
