
/-
  Facts on the loaded program alone, each by the kernel's run: what every row of the seat asks of it.
-/
import Derived.Test.YtfapdhfjcnehhaaDoorRows
import Derived.JoinedOf
import Derived.KernelRfl
namespace Go.Proofs.YtfapdhfjcnehhaaDoor
theorem own : ownKnob Tryd.prog.godebug = none := by kernel_rfl
theorem pLaid : laidOutB Tryd.prog = true := by kernel_rfl
theorem pMaps : mapsRowed Tryd.prog = true := by kernel_rfl
theorem pStops : (Tryd.prog.stops == []) = true := by kernel_rfl
theorem pKnobs : (Tryd.prog.stopKnobs == []) = true := by kernel_rfl
theorem pPlain : (true == Tryd.prog.plainKeys) = true := by kernel_rfl
theorem pHeard : Tryd.prog.stopsHeard = true := by kernel_rfl
theorem pEnter : Tryd.prog.mayEnter = true := by kernel_rfl
theorem pLift : (false == Tryd.prog.liftsFinal) = true := by kernel_rfl
theorem pMake : (Tryd.prog.make == some .cut) = true := by kernel_rfl
end Go.Proofs.YtfapdhfjcnehhaaDoor
