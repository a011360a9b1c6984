/-
  DERIVED. GIVEN WITH THE SEED: THE CARDS: each row of YtgbikafalcbibaaGreatDoorRows.lean that lists a variable, with what it lists TIED to the program's text (the seventh form; the later family's looks); each row that meets fmt, with fmt's text TOLD by the authors' own Lean function (tested against real Go, not proved from fmt's source: count such statements apart). THE CARD IS WHAT COUNTS. Prove the row's statement (the work); the ties are given (YtgbikafalcbibaaGreatDoorTie.lean); close each card by the builder's one call (the guide's Derived/Test/ToyasCard.lean, 'card_holds'). Laid BY PROGRAM, IN A SANDBOX (cutbox-door.mjs). By AI agents, Wed Nov 11 2026. No macro, syntax, notation, axiom, sorry.
-/
import Derived.Test.YtgbikafalcbibaaGreatDoorRows
import GoSem.ClaimSeven
namespace Go.Proofs.YtgbikafalcbibaaGreatDoor
namespace Rows

/-- THE TIED CARD OF 'laws.FnExactFindTwice'. -/
def fnExactFindTwiceCard : Claim7 := { stood := { row := fnExactFindTwiceRow, standIns := [], harness := (true, "ff710c528d336c51b6f5f6520e8b6ede18ebec256ba2cffccc388a5425bb1131"), looks := false }, kinds := [], alts := [], laidByText := true, laidKinds := [.data, .pinned], laidTests := true, laidLooks := .later }
def FnExactFindTwiceCardSaid : Prop := Claim7.holds Tryz.pinned (.plain (OpenSpec.ofChange fnExactFindTwiceSpec)) fnExactFindTwiceCard

/-- THE TIED CARD OF 'laws.FnExactFindUnused'. -/
def fnExactFindUnusedCard : Claim7 := { stood := { row := fnExactFindUnusedRow, standIns := [], harness := (true, "ff710c528d336c51b6f5f6520e8b6ede18ebec256ba2cffccc388a5425bb1131"), looks := false }, kinds := [], alts := [], laidByText := true, laidKinds := [.data, .pinned], laidTests := true, laidLooks := .later }
def FnExactFindUnusedCardSaid : Prop := Claim7.holds Tryz.pinned (.plain (OpenSpec.ofChange fnExactFindUnusedSpec)) fnExactFindUnusedCard

/-- THE TIED CARD OF 'laws.FnExactFindDeep'. -/
def fnExactFindDeepCard : Claim7 := { stood := { row := fnExactFindDeepRow, standIns := [], harness := (true, "ff710c528d336c51b6f5f6520e8b6ede18ebec256ba2cffccc388a5425bb1131"), looks := false }, kinds := [], alts := [], laidByText := true, laidKinds := [.data, .data, .data, .data, .pinned], laidTests := true, laidLooks := .later }
def FnExactFindDeepCardSaid : Prop := Claim7.holds Tryz.pinned (.plain (OpenSpec.ofChange fnExactFindDeepSpec)) fnExactFindDeepCard

/-- THE TIED CARD OF 'laws.FnExactFindAll'. -/
def fnExactFindAllCard : Claim7 := { stood := { row := fnExactFindAllRow, standIns := [], harness := (true, "ff710c528d336c51b6f5f6520e8b6ede18ebec256ba2cffccc388a5425bb1131"), looks := false }, kinds := [], alts := [], laidByText := true, laidKinds := [.data, .data, .data, .data, .pinned], laidTests := true, laidLooks := .later }
def FnExactFindAllCardSaid : Prop := Claim7.holds Tryz.pinned (.plain (OpenSpec.ofChange fnExactFindAllSpec)) fnExactFindAllCard

/-- THE SECOND FORM's CARD OF 'laws.FnExactFindTwice'. -/
def fnExactFindTwiceUptoCard : Claim7 := { stood := { row := fnExactFindTwiceUptoRow, standIns := [], harness := (true, "ff710c528d336c51b6f5f6520e8b6ede18ebec256ba2cffccc388a5425bb1131"), looks := false }, kinds := [], alts := [], laidByText := true, laidKinds := [.data, .pinned], laidTests := true, laidLooks := .later }
def FnExactFindTwiceUptoCardSaid : Prop := Claim7.holds Tryz.pinned (.plain (OpenSpec.upto fnExactFindTwiceSpec)) fnExactFindTwiceUptoCard

/-- THE SECOND FORM's CARD OF 'laws.FnExactFindUnused'. -/
def fnExactFindUnusedUptoCard : Claim7 := { stood := { row := fnExactFindUnusedUptoRow, standIns := [], harness := (true, "ff710c528d336c51b6f5f6520e8b6ede18ebec256ba2cffccc388a5425bb1131"), looks := false }, kinds := [], alts := [], laidByText := true, laidKinds := [.data, .pinned], laidTests := true, laidLooks := .later }
def FnExactFindUnusedUptoCardSaid : Prop := Claim7.holds Tryz.pinned (.plain (OpenSpec.upto fnExactFindUnusedSpec)) fnExactFindUnusedUptoCard

/-- THE SECOND FORM's CARD OF 'laws.FnExactFindDeep'. -/
def fnExactFindDeepUptoCard : Claim7 := { stood := { row := fnExactFindDeepUptoRow, standIns := [], harness := (true, "ff710c528d336c51b6f5f6520e8b6ede18ebec256ba2cffccc388a5425bb1131"), looks := false }, kinds := [], alts := [], laidByText := true, laidKinds := [.data, .data, .data, .data, .pinned], laidTests := true, laidLooks := .later }
def FnExactFindDeepUptoCardSaid : Prop := Claim7.holds Tryz.pinned (.plain (OpenSpec.upto fnExactFindDeepSpec)) fnExactFindDeepUptoCard

/-- THE SECOND FORM's CARD OF 'laws.FnExactFindAll'. -/
def fnExactFindAllUptoCard : Claim7 := { stood := { row := fnExactFindAllUptoRow, standIns := [], harness := (true, "ff710c528d336c51b6f5f6520e8b6ede18ebec256ba2cffccc388a5425bb1131"), looks := false }, kinds := [], alts := [], laidByText := true, laidKinds := [.data, .data, .data, .data, .pinned], laidTests := true, laidLooks := .later }
def FnExactFindAllUptoCardSaid : Prop := Claim7.holds Tryz.pinned (.plain (OpenSpec.upto fnExactFindAllSpec)) fnExactFindAllUptoCard
end Rows
end Go.Proofs.YtgbikafalcbibaaGreatDoor
