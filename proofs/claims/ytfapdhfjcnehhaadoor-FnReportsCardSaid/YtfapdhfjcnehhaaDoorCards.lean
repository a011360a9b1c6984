/-
  DERIVED. GIVEN WITH THE SEED: THE CARDS: each row of YtfapdhfjcnehhaaDoorRows.lean that lists a variable, with what it lists TIED to the program's text (the seventh form; the later family's looks); each row that meets fmt, with fmt's text TOLD by the authors' own Lean function (tested against real Go, not proved from fmt's source: count such statements apart). THE CARD IS WHAT COUNTS. Prove the row's statement (the work); the ties are given (YtfapdhfjcnehhaaDoorTie.lean); close each card by the builder's one call (the guide's Derived/Test/ToyasCard.lean, 'card_holds'). Laid BY PROGRAM, IN A SANDBOX (cutbox-door.mjs). By AI agents, Wed Nov 11 2026. No macro, syntax, notation, axiom, sorry.
-/
import Derived.Test.YtfapdhfjcnehhaaDoorRows
import GoSem.ClaimSeven
namespace Go.Proofs.YtfapdhfjcnehhaaDoor
namespace Rows

/-- THE TIED CARD OF 'laws.FnExactShowFinding'. -/
def fnExactShowFindingCard : Claim7 := { stood := { row := fnExactShowFindingRow, standIns := [], harness := (true, "5bae1dc4b416a689726abf18f983039f12519d929cc743a310bfb11adb8fedd6"), looks := false }, kinds := [], alts := [], laidByText := true, laidKinds := [.data, .data, .data], laidTests := true, laidLooks := .later }
def FnExactShowFindingCardSaid : Prop := Claim7.holds Tryd.pinned (.plain (OpenSpec.ofChange fnExactShowFindingSpec)) fnExactShowFindingCard

/-- THE TIED CARD OF 'laws.FnExactOptionsText'. -/
def fnExactOptionsTextCard : Claim7 := { stood := { row := fnExactOptionsTextRow, standIns := [], harness := (true, "5bae1dc4b416a689726abf18f983039f12519d929cc743a310bfb11adb8fedd6"), looks := false }, kinds := [], alts := [], laidByText := true, laidKinds := [.data, .data, .data], laidTests := true, laidLooks := .later }
def FnExactOptionsTextCardSaid : Prop := Claim7.holds Tryd.pinned (.plain (OpenSpec.ofChange fnExactOptionsTextSpec)) fnExactOptionsTextCard

/-- THE TIED CARD OF 'laws.FnExactShowValues'. -/
def fnExactShowValuesCard : Claim7 := { stood := { row := fnExactShowValuesRow, standIns := [], harness := (true, "5bae1dc4b416a689726abf18f983039f12519d929cc743a310bfb11adb8fedd6"), looks := false }, kinds := [], alts := [], laidByText := true, laidKinds := [.data, .data, .data], laidTests := true, laidLooks := .later }
def FnExactShowValuesCardSaid : Prop := Claim7.holds Tryd.pinned (.plain (OpenSpec.ofChange fnExactShowValuesSpec)) fnExactShowValuesCard

/-- THE TIED CARD OF 'laws.FnExactFindLong'. -/
def fnExactFindLongCard : Claim7 := { stood := { row := fnExactFindLongRow, standIns := [], harness := (true, "5bae1dc4b416a689726abf18f983039f12519d929cc743a310bfb11adb8fedd6"), looks := false }, kinds := [], alts := [], laidByText := true, laidKinds := [.data, .data, .data, .data, .pinned], laidTests := true, laidLooks := .later }
def FnExactFindLongCardSaid : Prop := Claim7.holds Tryd.pinned (.plain (OpenSpec.ofChange fnExactFindLongSpec)) fnExactFindLongCard

/-- THE TIED CARD OF 'laws.FnReports'. -/
def fnReportsCard : Claim7 := { stood := { row := fnReportsRow, standIns := [], harness := (true, "5bae1dc4b416a689726abf18f983039f12519d929cc743a310bfb11adb8fedd6"), looks := false }, kinds := [], alts := [], laidByText := true, laidKinds := [.data, .data, .data], laidTests := true, laidLooks := .later }
def FnReportsCardSaid : Prop := Claim7.holds Tryd.pinned (.plain (OpenSpec.ofChange fnReportsSpec)) fnReportsCard

/-- THE TIED CARD OF 'laws.FnExactReadOptions'. -/
def fnExactReadOptionsCard : Claim7 := { stood := { row := fnExactReadOptionsRow, standIns := [], harness := (true, "5bae1dc4b416a689726abf18f983039f12519d929cc743a310bfb11adb8fedd6"), looks := false }, kinds := [], alts := [], laidByText := true, laidKinds := [.data, .data, .data, .data, .pinned], laidTests := true, laidLooks := .later }
def FnExactReadOptionsCardSaid : Prop := Claim7.holds Tryd.pinned (.plain (OpenSpec.ofChange fnExactReadOptionsSpec)) fnExactReadOptionsCard

/-- THE TIED CARD OF 'laws.FnExactShowPiece'. -/
def fnExactShowPieceCard : Claim7 := { stood := { row := fnExactShowPieceRow, standIns := [], harness := (true, "5bae1dc4b416a689726abf18f983039f12519d929cc743a310bfb11adb8fedd6"), looks := false }, kinds := [], alts := [], laidByText := true, laidKinds := [.data, .data, .data], laidTests := true, laidLooks := .later }
def FnExactShowPieceCardSaid : Prop := Claim7.holds Tryd.pinned (.plain (OpenSpec.ofChange fnExactShowPieceSpec)) fnExactShowPieceCard

/-- THE SECOND FORM's CARD OF 'laws.FnExactShowFinding'. -/
def fnExactShowFindingUptoCard : Claim7 := { stood := { row := fnExactShowFindingUptoRow, standIns := [], harness := (true, "5bae1dc4b416a689726abf18f983039f12519d929cc743a310bfb11adb8fedd6"), looks := false }, kinds := [], alts := [], laidByText := true, laidKinds := [.data, .data, .data], laidTests := true, laidLooks := .later }
def FnExactShowFindingUptoCardSaid : Prop := Claim7.holds Tryd.pinned (.plain (OpenSpec.upto fnExactShowFindingSpec)) fnExactShowFindingUptoCard

/-- THE SECOND FORM's CARD OF 'laws.FnExactOptionsText'. -/
def fnExactOptionsTextUptoCard : Claim7 := { stood := { row := fnExactOptionsTextUptoRow, standIns := [], harness := (true, "5bae1dc4b416a689726abf18f983039f12519d929cc743a310bfb11adb8fedd6"), looks := false }, kinds := [], alts := [], laidByText := true, laidKinds := [.data, .data, .data], laidTests := true, laidLooks := .later }
def FnExactOptionsTextUptoCardSaid : Prop := Claim7.holds Tryd.pinned (.plain (OpenSpec.upto fnExactOptionsTextSpec)) fnExactOptionsTextUptoCard

/-- THE SECOND FORM's CARD OF 'laws.FnExactShowValues'. -/
def fnExactShowValuesUptoCard : Claim7 := { stood := { row := fnExactShowValuesUptoRow, standIns := [], harness := (true, "5bae1dc4b416a689726abf18f983039f12519d929cc743a310bfb11adb8fedd6"), looks := false }, kinds := [], alts := [], laidByText := true, laidKinds := [.data, .data, .data], laidTests := true, laidLooks := .later }
def FnExactShowValuesUptoCardSaid : Prop := Claim7.holds Tryd.pinned (.plain (OpenSpec.upto fnExactShowValuesSpec)) fnExactShowValuesUptoCard

/-- THE SECOND FORM's CARD OF 'laws.FnExactFindLong'. -/
def fnExactFindLongUptoCard : Claim7 := { stood := { row := fnExactFindLongUptoRow, standIns := [], harness := (true, "5bae1dc4b416a689726abf18f983039f12519d929cc743a310bfb11adb8fedd6"), looks := false }, kinds := [], alts := [], laidByText := true, laidKinds := [.data, .data, .data, .data, .pinned], laidTests := true, laidLooks := .later }
def FnExactFindLongUptoCardSaid : Prop := Claim7.holds Tryd.pinned (.plain (OpenSpec.upto fnExactFindLongSpec)) fnExactFindLongUptoCard

/-- THE SECOND FORM's CARD OF 'laws.FnReports'. -/
def fnReportsUptoCard : Claim7 := { stood := { row := fnReportsUptoRow, standIns := [], harness := (true, "5bae1dc4b416a689726abf18f983039f12519d929cc743a310bfb11adb8fedd6"), looks := false }, kinds := [], alts := [], laidByText := true, laidKinds := [.data, .data, .data], laidTests := true, laidLooks := .later }
def FnReportsUptoCardSaid : Prop := Claim7.holds Tryd.pinned (.plain (OpenSpec.upto fnReportsSpec)) fnReportsUptoCard

/-- THE SECOND FORM's CARD OF 'laws.FnExactReadOptions'. -/
def fnExactReadOptionsUptoCard : Claim7 := { stood := { row := fnExactReadOptionsUptoRow, standIns := [], harness := (true, "5bae1dc4b416a689726abf18f983039f12519d929cc743a310bfb11adb8fedd6"), looks := false }, kinds := [], alts := [], laidByText := true, laidKinds := [.data, .data, .data, .data, .pinned], laidTests := true, laidLooks := .later }
def FnExactReadOptionsUptoCardSaid : Prop := Claim7.holds Tryd.pinned (.plain (OpenSpec.upto fnExactReadOptionsSpec)) fnExactReadOptionsUptoCard

/-- THE SECOND FORM's CARD OF 'laws.FnExactShowPiece'. -/
def fnExactShowPieceUptoCard : Claim7 := { stood := { row := fnExactShowPieceUptoRow, standIns := [], harness := (true, "5bae1dc4b416a689726abf18f983039f12519d929cc743a310bfb11adb8fedd6"), looks := false }, kinds := [], alts := [], laidByText := true, laidKinds := [.data, .data, .data], laidTests := true, laidLooks := .later }
def FnExactShowPieceUptoCardSaid : Prop := Claim7.holds Tryd.pinned (.plain (OpenSpec.upto fnExactShowPieceSpec)) fnExactShowPieceUptoCard
end Rows
end Go.Proofs.YtfapdhfjcnehhaaDoor
