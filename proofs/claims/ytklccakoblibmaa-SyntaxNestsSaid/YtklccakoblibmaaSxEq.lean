/- The reference's step is the program's. Conditions: none. -/
import Derived.Test.YtklccakoblibmaaSxStep
namespace Go.Proofs.Ytklccakoblibmaa
open Go Go.Eng
set_option linter.unusedSimpArgs false
namespace Sx
theorem srt_len (l : List So) : (srt l).length = l.length := List.length_map _
theorem siz_of {n k : Int} (h : ¬ n < k) (h2 : ¬ 16 < n) : sizE n k = 0 := siz_0 h h2
theorem all_nil : allE [] [] = 0 := rfl
theorem itm_nil : itmE [] = 0 := rfl
theorem sz_8 {s : St} (h : (s.op = 2 ∧ s.il.length = 0) ∨ (s.op = 3 ∧ s.cl.length + s.al.length = 0) ∨ (s.op = 4 ∧ s.sl.length = 0) ∨ (s.op = 6 ∧ s.cl.length = 0)) : szE s = 8 := by unfold szE; rw [if_pos h]
theorem sz_7 {s : St} (h : ¬ ((s.op = 2 ∧ s.il.length = 0) ∨ (s.op = 3 ∧ s.cl.length + s.al.length = 0) ∨ (s.op = 4 ∧ s.sl.length = 0) ∨ (s.op = 6 ∧ s.cl.length = 0))) (h2 : 16 < s.il.length ∨ 16 < s.cl.length ∨ 16 < s.al.length ∨ 16 < s.sl.length) : szE s = 7 := by unfold szE; rw [if_neg h, if_pos h2]
theorem sz_0 {s : St} (h : ¬ ((s.op = 2 ∧ s.il.length = 0) ∨ (s.op = 3 ∧ s.cl.length + s.al.length = 0) ∨ (s.op = 4 ∧ s.sl.length = 0) ∨ (s.op = 6 ∧ s.cl.length = 0))) (h2 : ¬ (16 < s.il.length ∨ 16 < s.cl.length ∨ 16 < s.al.length ∨ 16 < s.sl.length)) : szE s = 0 := by unfold szE; rw [if_neg h, if_neg h2]
/-- The reference's step is the program's. -/
theorem rstp_eq (s : St) : rstpE s = stpE s := by
  by_cases h1 : s.op < 1 ∨ 9 < s.op ∨ ¬ uN s = 0
  · have hu : usB s = false := by
      unfold usB
      rw [Bool.and_eq_false_iff, decide_eq_false_iff_not, unF]
      omega
    unfold rstpE stpE
    rw [if_pos h1, if_pos hu]
  · have hu : ¬ usB s = false := by
      unfold usB
      rw [Bool.and_eq_false_iff, decide_eq_false_iff_not, unF]
      omega
    have hun : unB s = true := unT.2 (by omega)
    unfold unB at hun
    rw [decide_eq_true_eq] at hun
    unfold rstpE stpE
    rw [if_neg h1, if_neg hu]
    by_cases ht : (s.op = 6 ∨ s.op = 7 ∨ s.op = 8) ∧ ¬ idN s.tb = 0
    · rw [if_pos ht, if_neg (by omega), if_neg (by omega), if_neg (by omega), if_neg (by omega), if_neg (by omega), if_neg (by omega), if_pos (by rw [idF]; exact ht.2)]
    · rw [if_neg ht]
      have hid : (s.op = 6 ∨ s.op = 7 ∨ s.op = 8) → ¬ idB s.tb = false := fun z => by rw [idF]; omega
      by_cases o1 : s.op = 1
      · rw [if_neg (by rw [sz_0 (by omega) (by omega)]; simp), if_pos o1, if_pos o1]
      rw [if_neg o1, if_neg o1]
      by_cases o2 : s.op = 2
      · rw [if_pos o2, if_pos o2]
        by_cases z : s.il.length = 0
        · rw [sz_8 (by omega), if_pos (by decide), if_pos (by rw [siz_8 (by omega)]; decide), siz_8 (by omega)]
        · by_cases z2 : 16 < s.il.length
          · rw [sz_7 (by omega) (by omega), if_pos (by decide), if_pos (by rw [siz_7 (by omega) (by omega)]; decide), siz_7 (by omega) (by omega)]
          · rw [sz_0 (by omega) (by omega), if_neg (by decide), if_neg (by rw [siz_0 (by omega) (by omega)]; decide)]
      rw [if_neg o2, if_neg o2]
      by_cases o3 : s.op = 3
      · rw [if_pos o3, if_pos o3]
        by_cases z : s.cl.length + s.al.length = 0
        · rw [sz_8 (by omega), if_pos (by decide), grp_8 z]
        · by_cases z2 : 16 < s.cl.length ∨ 16 < s.al.length
          · rw [sz_7 (by omega) (by omega), if_pos (by decide), grp_7 z z2]
          · rw [sz_0 (by omega) (by omega), if_neg (by decide)]
            unfold gxE
            by_cases za : allE [] s.cl = 0
            · rw [if_neg (by rw [za]; simp), grp_agg z z2 za]; rfl
            · rw [if_pos za, grp_all z z2 za]
      rw [if_neg o3, if_neg o3]
      by_cases o4 : s.op = 4
      · rw [if_pos o4, if_pos o4]
        have hl := srt_len s.sl
        by_cases z : s.sl.length = 0
        · rw [sz_8 (by omega), if_pos (by decide), col_siz (by rw [hl, siz_8 (by omega)]; decide), hl, siz_8 (by omega)]
        · by_cases z2 : 16 < s.sl.length
          · rw [sz_7 (by omega) (by omega), if_pos (by decide), col_siz (by rw [hl, siz_7 (by omega) (by omega)]; decide), hl, siz_7 (by omega) (by omega)]
          · rw [sz_0 (by omega) (by omega), if_neg (by decide), col_all (by rw [hl, siz_0 (by omega) (by omega)])]
      rw [if_neg o4, if_neg o4]
      by_cases o5 : s.op = 5
      · rw [if_neg (by rw [sz_0 (by omega) (by omega)]; simp), if_pos o5, if_pos o5]
      rw [if_neg o5, if_neg o5]
      by_cases o6 : s.op = 6
      · rw [if_neg (show ¬ s.op = 9 by omega), if_neg (hid (by omega)), if_pos o6]
        by_cases z : s.cl.length = 0
        · rw [sz_8 (by omega), if_pos (by decide), col_siz (by rw [siz_8 (by omega)]; decide), siz_8 (by omega)]
        · by_cases z2 : 16 < s.cl.length
          · rw [sz_7 (by omega) (by omega), if_pos (by decide), col_siz (by rw [siz_7 (by omega) (by omega)]; decide), siz_7 (by omega) (by omega)]
          · rw [sz_0 (by omega) (by omega), if_neg (by decide), col_all (siz_0 (by omega) (by omega))]
      have hc : (if ¬ szE s = 0 then szE s else allE [] s.cl) = colE s.cl 0 := by
        by_cases z2 : 16 < s.cl.length
        · rw [sz_7 (by omega) (by omega), if_pos (by decide), col_siz (by rw [siz_7 (by omega) (by omega)]; decide), siz_7 (by omega) (by omega)]
        · rw [sz_0 (by omega) (by omega), if_neg (by decide), col_all (siz_0 (by omega) (by omega))]
      rw [hc]
      by_cases o9 : s.op = 9
      · rw [if_pos o9]
      · rw [if_neg o9, if_neg (hid (by omega)), if_neg o6]
end Sx
end Go.Proofs.Ytklccakoblibmaa
