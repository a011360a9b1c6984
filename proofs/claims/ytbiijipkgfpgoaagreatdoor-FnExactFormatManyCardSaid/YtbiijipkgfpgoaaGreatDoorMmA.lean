/-
  Put together by program.
-/
import Derived.Test.YtbiijipkgfpgoaaGreatDoorRows
import Derived.JoinedOf
set_option maxRecDepth 100000
set_option linter.all false
set_option maxHeartbeats 25600000
namespace Go.Proofs.YtbiijipkgfpgoaaGreatDoor
theorem own:ownKnob Tryz.prog.godebug=none:=by kernel_rfl
theorem pLaid:laidOutB Tryz.prog=true:=by kernel_rfl
theorem pMaps:mapsRowed Tryz.prog=true:=by kernel_rfl
theorem pStops:(Tryz.prog.stops==[])=true:=by kernel_rfl
theorem pKnobs:(Tryz.prog.stopKnobs==[])=true:=by kernel_rfl
theorem pPlain:(true==Tryz.prog.plainKeys)=true:=by kernel_rfl
theorem pHeard:Tryz.prog.stopsHeard=true:=by kernel_rfl
theorem pEnter:Tryz.prog.mayEnter=true:=by kernel_rfl
theorem pLift:(false==Tryz.prog.liftsFinal)=true:=by kernel_rfl
theorem pMake:(Tryz.prog.make==some .cut)=true:=by kernel_rfl
end Go.Proofs.YtbiijipkgfpgoaaGreatDoor
