/-
  DERIVED. GIVEN WITH THE SEED: THE CARDS: each row of YtbiijipkgfpgoaaGreatDoorRows.lean that lists a variable, with what it lists TIED to the program's text (the seventh form; the later family's looks); each row that meets fmt, with fmt's text TOLD by the authors' own Lean function (tested against real Go, not proved from fmt's source: count such statements apart). THE CARD IS WHAT COUNTS. Prove the row's statement (the work); the ties are given (YtbiijipkgfpgoaaGreatDoorTie.lean); close each card by the builder's one call (the guide's Derived/Test/ToyasCard.lean, 'card_holds'). Laid BY PROGRAM, IN A SANDBOX (cutbox-door.mjs). By AI agents, Wed Nov 11 2026. No macro, syntax, notation, axiom, sorry.
-/
import Derived.Test.YtbiijipkgfpgoaaGreatDoorRows
import GoSem.ClaimSeven
namespace Go.Proofs.YtbiijipkgfpgoaaGreatDoor
namespace Rows

/-- THE TIED CARD OF 'laws.FnExactFormatChange'. -/
def fnExactFormatChangeCard : Claim7 := { stood := { row := fnExactFormatChangeRow, standIns := [], harness := (true, "793da9544a032a23e4822101f856f0836a84c20aa8ac8f1a326f6ce409a1a3b8"), looks := false }, kinds := [], alts := [], laidByText := true, laidKinds := [.data, .pinned], laidTests := true, laidLooks := .later }
def FnExactFormatChangeCardSaid : Prop := Claim7.holds Tryz.pinned (.plain (OpenSpec.ofChange fnExactFormatChangeSpec)) fnExactFormatChangeCard

/-- THE TIED CARD OF 'laws.FnExactFormatMany'. -/
def fnExactFormatManyCard : Claim7 := { stood := { row := fnExactFormatManyRow, standIns := [], harness := (true, "793da9544a032a23e4822101f856f0836a84c20aa8ac8f1a326f6ce409a1a3b8"), looks := false }, kinds := [], alts := [], laidByText := true, laidKinds := [.data, .pinned], laidTests := true, laidLooks := .later }
def FnExactFormatManyCardSaid : Prop := Claim7.holds Tryz.pinned (.plain (OpenSpec.ofChange fnExactFormatManySpec)) fnExactFormatManyCard

/-- THE SECOND FORM's CARD OF 'laws.FnExactFormatChange'. -/
def fnExactFormatChangeUptoCard : Claim7 := { stood := { row := fnExactFormatChangeUptoRow, standIns := [], harness := (true, "793da9544a032a23e4822101f856f0836a84c20aa8ac8f1a326f6ce409a1a3b8"), looks := false }, kinds := [], alts := [], laidByText := true, laidKinds := [.data, .pinned], laidTests := true, laidLooks := .later }
def FnExactFormatChangeUptoCardSaid : Prop := Claim7.holds Tryz.pinned (.plain (OpenSpec.upto fnExactFormatChangeSpec)) fnExactFormatChangeUptoCard

/-- THE SECOND FORM's CARD OF 'laws.FnExactFormatMany'. -/
def fnExactFormatManyUptoCard : Claim7 := { stood := { row := fnExactFormatManyUptoRow, standIns := [], harness := (true, "793da9544a032a23e4822101f856f0836a84c20aa8ac8f1a326f6ce409a1a3b8"), looks := false }, kinds := [], alts := [], laidByText := true, laidKinds := [.data, .pinned], laidTests := true, laidLooks := .later }
def FnExactFormatManyUptoCardSaid : Prop := Claim7.holds Tryz.pinned (.plain (OpenSpec.upto fnExactFormatManySpec)) fnExactFormatManyUptoCard
end Rows
end Go.Proofs.YtbiijipkgfpgoaaGreatDoor
