
/-
  The laid tables: what the condition gives the walks, and a start that meets it.
-/
import Derived.Test.YtfapdhfjcnehhaaDoorDec
import Derived.Test.YtfapdhfjcnehhaaDoorRows
import Derived.LaidMore
import Derived.MakeChecks
import Derived.LaidHandle
import Derived.Stop.LaidErr
namespace Go.Proofs.YtfapdhfjcnehhaaDoor
open Go.ChangeShapes Go.WideShapes Go.ChangeAt Go.RowKit

def doorSteps : Nat := 400
theorem door_met (os : Os) (args : Array Value) : laidMetH Tryd.prog Rows.fnExactShowFindingRow.laid ((World.doorLaid Tryd.prog doorSteps os).forCall (fun _ _ => 0) ⟨#[], args, []⟩).memory :=
  laidMetH_of_parts3 (fuel := 8) (laidMet_of_run' 8 (by kernel_rfl) (by kernel_rfl)) (by kernel_rfl) (by kernel_rfl)
theorem powData : (Rows.laid_internal_strconv_uint64pow10 : DataW Unit) = Lib.tabData .u64 Lib.pow10Tab := by
  unfold Rows.laid_internal_strconv_uint64pow10 Lib.tabData Lib.pow10Tab
  rfl
theorem tab_of_laid {W : World} (h : laidMetH Tryd.prog Rows.fnExactShowFindingRow.laid W) : Tab W := by
  rw [MakeChecks.laidMetH_plain _ _ _ (by kernel_rfl)] at h
  have h2 := laidMet.tail (laidMet.tail h)
  rw [powData] at h2
  exact Lib.tabIs_of_head (n := 20) (e := 171) (t := 183) gPow (by kernel_rfl) Tryd.underlying183 Tryd.underlying171 (by kernel_rfl) (by kernel_rfl) h2
end Go.Proofs.YtfapdhfjcnehhaaDoor
