
/-
  Facts on the loaded program alone, each by the kernel's run: what every row of the seat asks of it.
-/
import Derived.Test.YtfapdhfjcnehhaaRows
import Derived.JoinedOf
import Derived.KernelRfl
namespace Go.Proofs.Ytfapdhfjcnehhaa
theorem own : ownKnob Try.prog.godebug = none := by kernel_rfl
theorem pLaid : laidOutB Try.prog = true := by kernel_rfl
theorem pMaps : mapsRowed Try.prog = true := by kernel_rfl
theorem pStops : (Try.prog.stops == []) = true := by kernel_rfl
theorem pKnobs : (Try.prog.stopKnobs == []) = true := by kernel_rfl
theorem pPlain : (true == Try.prog.plainKeys) = true := by kernel_rfl
theorem pHeard : Try.prog.stopsHeard = true := by kernel_rfl
theorem pEnter : Try.prog.mayEnter = true := by kernel_rfl
theorem pLift : (false == Try.prog.liftsFinal) = true := by kernel_rfl
theorem pMake : (Try.prog.make == some .cut) = true := by kernel_rfl
end Go.Proofs.Ytfapdhfjcnehhaa
