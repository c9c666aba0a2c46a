/- The library's table and sentinels in memory; Itoa and Atoi by the kit's contracts. Conditions: what each theorem states. -/
import Derived.Test.YteaalclidffjgaaDoorNqLay
import Derived.Test.YteaalclidffjgaaDoorNqSpec
import Derived.Test.YteaalclidffjgaaDoorIn
namespace Go.Proofs.YteaalclidffjgaaDoor
open Go Go.Shelf Go.RowKit Go.Lib Go.Sort Go.Proofs Go.Eng
namespace Nq
theorem var_ext {P : Program} {w w' : World} {n : String} {cs : Array Value} (h : w.var? P n = some cs) (x : Ext w w') : w'.var? P n = some cs := by
  unfold World.var? at *
  cases hg : P.globalNamed n with
  | none => rw [hg] at h; cases h
  | some g =>
    rw [hg] at h
    simp only [Option.bind_some] at h ⊢
    have hlt : g < w.heap.size := by
      rcases Nat.lt_or_ge g w.heap.size with h1 | h1
      · exact h1
      · rw [Array.getElem?_eq_none h1] at h; cases h
    rw [x.block g hlt]; exact h
/-- What the library's functions read. -/
def Tabs (w : World) : Prop := Lib.TabIs Tryd.prog w "internal/strconv.uint64pow10" .u64 Lib.pow10Tab ∧ (∃ tp p, w.var? Tryd.prog "strconv.ErrSyntax" = some #[.iface tp p]) ∧ ∃ tp p, w.var? Tryd.prog "strconv.ErrRange" = some #[.iface tp p]
theorem Tabs.ext {w w' : World} (h : Tabs w) (x : Ext w w') : Tabs w' := by
  obtain ⟨h1, ⟨a, b, h2⟩, c, d, h3⟩ := h
  exact ⟨var_ext h1 x, ⟨a, b, var_ext h2 x⟩, c, d, var_ext h3 x⟩
/-- A number's text. -/
def txt (n : Int) : ByteArray := ⟨(Lib.itoa n).toArray⟩
end Nq
theorem itoa_any (n : Int) (w : World) (hT : Nq.Tabs w) (h : -9223372036854775808 ≤ n ∧ n ≤ 9223372036854775807) : Calls Tryd.prog 34 #[.int .i64 n] w fun e w' => e = .returned (.string (Nq.txt n)) ∧ Ext w w' :=
  (Any.strconv_Itoa Tryd.lays171 n h.1 h.2 w hT.1).mono fun e w' ⟨he, k, os, hw⟩ => ⟨he, by
    subst hw
    refine Ext.of ⟨rfl, rfl, rfl, by simp [grow], fun j hj => ?_⟩
    exact heap_grow_old _ _ (by simpa using hj)⟩
theorem atoi_ok (s : ByteArray) (v : Int) (w : World) (hs : s.size ≤ 200) (h : Lib.atoiAll s.data.toList = .ok v) : Calls Tryd.prog 35 #[.string s] w fun e w' => e = .returned (.tuple #[.int .i64 v, .nilIface]) ∧ Ext w w' :=
  (Any.strconv_Atoi_ok Tryd.lays172 s (by omega) v h w).mono fun e w' ⟨he, hw⟩ => ⟨he, by
    rcases hw with rfl | ⟨t, rfl⟩
    · exact Ext.refl _
    · exact Ext.of (Lib.bytesWorld_below w _ t)⟩
theorem atoi_bad (s : ByteArray) (w : World) (hT : Nq.Tabs w) (hs : s.size ≤ 200) (h : ∀ v, Lib.atoiAll s.data.toList ≠ .ok v) : Calls Tryd.prog 35 #[.string s] w fun e w' => ∃ v tp p, e = .returned (.tuple #[.int .i64 v, .iface tp p]) ∧ Ext w w' := by
  obtain ⟨_, ⟨a, b, h2⟩, c, d, h3⟩ := hT
  cases hr : Lib.atoiAll s.data.toList with
  | ok v => exact absurd hr (h v)
  | range => exact (Any.strconv_Atoi_range_var Tryd.lays172 s (by omega) hr c d w h3).mono fun e w' ⟨N, he, _, _, hb⟩ => ⟨_, _, _, he, Ext.of hb⟩
  | _ => exact (Any.strconv_Atoi_syntax_var Tryd.lays172 s (by omega) hr a b w h2).mono fun e w' ⟨N, he, _, _, hb⟩ => ⟨_, _, _, he, Ext.of hb⟩
end Go.Proofs.YteaalclidffjgaaDoor
