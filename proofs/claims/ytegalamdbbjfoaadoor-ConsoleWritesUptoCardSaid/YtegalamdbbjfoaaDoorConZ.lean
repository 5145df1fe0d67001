/- From the rows' list to what the walks ask; a world for the witnesses. -/
import Derived.Test.YtegalamdbbjfoaaDoorConY
import Derived.Test.YtegalamdbbjfoaaDoorCards
import Derived.Test.YtegalamdbbjfoaaDoorTie
import Derived.WalkKit
import Derived.ProofKit
import Derived.OpenShut
import Derived.ShutString
import Derived.Below
import Derived.Lay
import Derived.Deep.DeepHandedRow
import Derived.Lib.LaidTab
import Derived.Lib.LaidU8
namespace Go.Proofs.YtegalamdbbjfoaaDoor
open Go.ChangeShapes Go.WideShapes Go.ChangeAt Go.RowKit

theorem own : ownKnob Tryd.prog.godebug = none := by kernel_rfl
theorem laidOut : laidOutB Tryd.prog = true := by kernel_rfl

theorem gPow : Tryd.prog.globalNamed "internal/strconv.uint64pow10" = some 1 := by kernel_rfl
theorem gPowType : (Tryd.prog.globals[1]?).map (·.type) = some 84 := by kernel_rfl
theorem cells84 : Tryd.prog.cellsOf 84 = 20 := by kernel_rfl
theorem cells76 : Tryd.prog.cellsOf 76 = 1 := by kernel_rfl

/-- The table of ten's powers, out of the list. -/
theorem tab10_of_reads {W : World} (h : Lib.VarReads Tryd.prog W "internal/strconv.uint64pow10" (Lib.tabData .u64 Lib.pow10Tab)) : Tab10 W := by
  obtain ⟨g, t, cs, fuel, p, hg, ht, hv, hd⟩ := h
  obtain rfl := Option.some.inj (gPow.symm.trans hg)
  obtain rfl := Option.some.inj (gPowType.symm.trans ht)
  unfold Tab10 Lib.TabIs
  rw [hv, ← Lib.cells_of_tab Tryd.underlying84 Tryd.underlying76 cells76 cells84 hd]
abbrev conLaid : List (String × DataW Unit) := Rows.consoleReadsRow.laid
theorem powData : Rows.laid_internal_strconv_uint64pow10 (H := Unit) = Lib.tabData .u64 Lib.pow10Tab := by rfl
theorem tab10 {W : World} (h : laidMetH Tryd.prog conLaid W) : Tab10 W := by
  rw [MakeChecks.laidMetH_plain _ _ _ (by kernel_rfl)] at h
  refine tab10_of_reads (powData ▸ Lib.laidMet.reads h ?_)
  exact .tail _ (.tail _ (.head _))
theorem cell0 {W : World} (h : W.ShapedOpen Tryd.prog) : ∃ g, W.cell? ⟨0, 0, none⟩ = some (.int .i64 g) := Tryd.laysM143.s1_3 W h
theorem laid_met (os : Os) (args : Array Value) : laidMetH Tryd.prog conLaid ((World.laidAll Tryd.prog os conLaid).forCall (fun _ _ => 0) ⟨#[], args, []⟩).memory := by
  rw [MakeChecks.laidMetH_plain _ _ _ (by kernel_rfl)]
  exact laidMet_laidAll _ (by kernel_rfl) (by kernel_rfl)
end Go.Proofs.YtegalamdbbjfoaaDoor
