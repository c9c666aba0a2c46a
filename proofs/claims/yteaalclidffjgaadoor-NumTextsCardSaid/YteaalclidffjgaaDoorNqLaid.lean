/- From a row's condition on the listed variables to what the walks ask of memory; the door's own heap meets it. Conditions: none. -/
import Derived.Test.YteaalclidffjgaaDoorNqTab
import Derived.Test.YteaalclidffjgaaDoorRows
import Derived.LaidMore
import Derived.OpenShut
import Derived.Stop.Joined
import Derived.Lib.LaidTab
import Derived.ProofKit
namespace Go.Proofs.YteaalclidffjgaaDoor
open Go Go.Eng Go.RowKit
namespace Laid
def laidL : List (String × DataW Unit) := Rows.numSumsRow.laid
theorem gP : Tryd.prog.globalNamed "internal/strconv.uint64pow10" = some 4 := by kernel_rfl
theorem gS : Tryd.prog.globalNamed "strconv.ErrSyntax" = some 2 := by kernel_rfl
theorem gR : Tryd.prog.globalNamed "strconv.ErrRange" = some 3 := by kernel_rfl
theorem tP : (Tryd.prog.globals[4]?).map (·.type) = some 97 := by kernel_rfl
theorem tS : (Tryd.prog.globals[2]?).map (·.type) = some 49 := by kernel_rfl
theorem tR : (Tryd.prog.globals[3]?).map (·.type) = some 49 := by kernel_rfl
set_option maxRecDepth 100000 in
theorem tabs {W : World} (h : laidMetH Tryd.prog laidL W) : Nq.Tabs W := by
  unfold laidL Rows.numSumsRow at h
  rw [MakeChecks.laidMetH_plain _ _ _ (by kernel_rfl)] at h
  obtain ⟨ps, ⟨_, _, _, _, _, _, _, _, _, _, ⟨_, _, _, _, _, _, _, _, _, _, ⟨gp, tp, cp, fp, pp, qp, hgp, htp, hvp, hdp, ⟨gr, tr, cr, fr, pr, qr, hgr, htr, hvr, hdr, ⟨gs, ts, cs, fs, ps', qs, hgs, hts, hvs, hds, _⟩, _⟩, _⟩, _⟩, _⟩, _⟩ := h
  obtain rfl := Option.some.inj (gP.symm.trans hgp)
  obtain rfl := Option.some.inj (gR.symm.trans hgr)
  obtain rfl := Option.some.inj (gS.symm.trans hgs)
  obtain rfl := Option.some.inj (tP.symm.trans htp)
  obtain rfl := Option.some.inj (tR.symm.trans htr)
  obtain rfl := Option.some.inj (tS.symm.trans hts)
  refine ⟨?_, ?_, ?_⟩
  · unfold Lib.TabIs
    have e := Lib.cells_of_tab (zs := Lib.pow10Tab) Tryd.underlying97 Tryd.underlying37 (by kernel_rfl) (by kernel_rfl) hdp
    rw [hvp, ← e]
  · obtain ⟨f1, u, v, e, _⟩ := iface_of_trod Tryd.underlying49 hds
    refine ⟨u, v, ?_⟩
    rw [hvs, show cs = cs.toList.toArray by simp, e]
  · obtain ⟨f1, u, v, e, _⟩ := iface_of_trod Tryd.underlying49 hdr
    refine ⟨u, v, ?_⟩
    rw [hvr, show cr = cr.toList.toArray by simp, e]
/-- The door's own heap meets the condition. -/
theorem door_met (os : Os) (args : Array Value) : laidMetH Tryd.prog laidL ((World.doorLaid Tryd.prog 400 os).forCall (fun _ _ => 0) ⟨#[], args, []⟩).memory :=
  laidMetH_of_parts3 (fuel := 8) (laidMet_of_run' 8 (by kernel_rfl) (by kernel_rfl)) (by kernel_rfl) (by kernel_rfl)
end Laid
end Go.Proofs.YteaalclidffjgaaDoor
