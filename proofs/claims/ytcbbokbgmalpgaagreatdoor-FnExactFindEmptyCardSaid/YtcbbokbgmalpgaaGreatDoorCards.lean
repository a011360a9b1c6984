/-
  DERIVED. GIVEN WITH THE SEED: THE CARDS: each row of YtcbbokbgmalpgaaGreatDoorRows.lean that lists a variable, with what it lists TIED to the program's text (the seventh form; the later family's looks); each row that meets fmt, with fmt's text TOLD by the authors' own Lean function (tested against real Go, not proved from fmt's source: count such statements apart). THE CARD IS WHAT COUNTS. Prove the row's statement (the work); the ties are given (YtcbbokbgmalpgaaGreatDoorTie.lean); close each card by the builder's one call (the guide's Derived/Test/ToyasCard.lean, 'card_holds'). Laid BY PROGRAM, IN A SANDBOX (cutbox-door.mjs). By AI agents, Wed Nov 11 2026. No macro, syntax, notation, axiom, sorry.
-/
import Derived.Test.YtcbbokbgmalpgaaGreatDoorRows
import GoSem.ClaimSeven
namespace Go.Proofs.YtcbbokbgmalpgaaGreatDoor
namespace Rows

/-- THE TIED CARD OF 'laws.FnExactTreated'. -/
def fnExactTreatedCard : Claim7 := { stood := { row := fnExactTreatedRow, standIns := [], harness := (true, "17aa55fea2042c47d0dc4d2e86a22601b89e158f7546cdb2b2643207608885bd"), looks := false }, kinds := [], alts := [], laidByText := true, laidKinds := [.data, .data, .data, .data, .pinned], laidTests := true, laidLooks := .later }
def FnExactTreatedCardSaid : Prop := Claim7.holds Tryz.pinned (.plain (OpenSpec.ofChange fnExactTreatedSpec)) fnExactTreatedCard

/-- THE TIED CARD OF 'laws.FnExactFindEmpty'. -/
def fnExactFindEmptyCard : Claim7 := { stood := { row := fnExactFindEmptyRow, standIns := [], harness := (true, "17aa55fea2042c47d0dc4d2e86a22601b89e158f7546cdb2b2643207608885bd"), looks := false }, kinds := [], alts := [], laidByText := true, laidKinds := [.data, .pinned], laidTests := true, laidLooks := .later }
def FnExactFindEmptyCardSaid : Prop := Claim7.holds Tryz.pinned (.plain (OpenSpec.ofChange fnExactFindEmptySpec)) fnExactFindEmptyCard

/-- THE TIED CARD OF 'laws.FnExactFindTwice'. -/
def fnExactFindTwiceCard : Claim7 := { stood := { row := fnExactFindTwiceRow, standIns := [], harness := (true, "17aa55fea2042c47d0dc4d2e86a22601b89e158f7546cdb2b2643207608885bd"), looks := false }, kinds := [], alts := [], laidByText := true, laidKinds := [.data, .pinned], laidTests := true, laidLooks := .later }
def FnExactFindTwiceCardSaid : Prop := Claim7.holds Tryz.pinned (.plain (OpenSpec.ofChange fnExactFindTwiceSpec)) fnExactFindTwiceCard

/-- THE TIED CARD OF 'laws.FnExactFindUnused'. -/
def fnExactFindUnusedCard : Claim7 := { stood := { row := fnExactFindUnusedRow, standIns := [], harness := (true, "17aa55fea2042c47d0dc4d2e86a22601b89e158f7546cdb2b2643207608885bd"), looks := false }, kinds := [], alts := [], laidByText := true, laidKinds := [.data, .pinned], laidTests := true, laidLooks := .later }
def FnExactFindUnusedCardSaid : Prop := Claim7.holds Tryz.pinned (.plain (OpenSpec.ofChange fnExactFindUnusedSpec)) fnExactFindUnusedCard

/-- THE TIED CARD OF 'laws.FnExactFindDeep'. -/
def fnExactFindDeepCard : Claim7 := { stood := { row := fnExactFindDeepRow, standIns := [], harness := (true, "17aa55fea2042c47d0dc4d2e86a22601b89e158f7546cdb2b2643207608885bd"), looks := false }, kinds := [], alts := [], laidByText := true, laidKinds := [.data, .data, .data, .data, .pinned], laidTests := true, laidLooks := .later }
def FnExactFindDeepCardSaid : Prop := Claim7.holds Tryz.pinned (.plain (OpenSpec.ofChange fnExactFindDeepSpec)) fnExactFindDeepCard

/-- THE TIED CARD OF 'laws.FnFinds'. -/
def fnFindsCard : Claim7 := { stood := { row := fnFindsRow, standIns := [], harness := (true, "17aa55fea2042c47d0dc4d2e86a22601b89e158f7546cdb2b2643207608885bd"), looks := false }, kinds := [], alts := [], laidByText := true, laidKinds := [.data, .data, .data, .data, .pinned], laidTests := true, laidLooks := .later }
def FnFindsCardSaid : Prop := Claim7.holds Tryz.pinned (.plain (OpenSpec.ofChange fnFindsSpec)) fnFindsCard

/-- THE TIED CARD OF 'laws.FnExactFindAll'. -/
def fnExactFindAllCard : Claim7 := { stood := { row := fnExactFindAllRow, standIns := [], harness := (true, "17aa55fea2042c47d0dc4d2e86a22601b89e158f7546cdb2b2643207608885bd"), looks := false }, kinds := [], alts := [], laidByText := true, laidKinds := [.data, .data, .data, .data, .pinned], laidTests := true, laidLooks := .later }
def FnExactFindAllCardSaid : Prop := Claim7.holds Tryz.pinned (.plain (OpenSpec.ofChange fnExactFindAllSpec)) fnExactFindAllCard

/-- THE SECOND FORM's CARD OF 'laws.FnExactTreated'. -/
def fnExactTreatedUptoCard : Claim7 := { stood := { row := fnExactTreatedUptoRow, standIns := [], harness := (true, "17aa55fea2042c47d0dc4d2e86a22601b89e158f7546cdb2b2643207608885bd"), looks := false }, kinds := [], alts := [], laidByText := true, laidKinds := [.data, .data, .data, .data, .pinned], laidTests := true, laidLooks := .later }
def FnExactTreatedUptoCardSaid : Prop := Claim7.holds Tryz.pinned (.plain (OpenSpec.upto fnExactTreatedSpec)) fnExactTreatedUptoCard

/-- THE SECOND FORM's CARD OF 'laws.FnExactFindEmpty'. -/
def fnExactFindEmptyUptoCard : Claim7 := { stood := { row := fnExactFindEmptyUptoRow, standIns := [], harness := (true, "17aa55fea2042c47d0dc4d2e86a22601b89e158f7546cdb2b2643207608885bd"), looks := false }, kinds := [], alts := [], laidByText := true, laidKinds := [.data, .pinned], laidTests := true, laidLooks := .later }
def FnExactFindEmptyUptoCardSaid : Prop := Claim7.holds Tryz.pinned (.plain (OpenSpec.upto fnExactFindEmptySpec)) fnExactFindEmptyUptoCard

/-- THE SECOND FORM's CARD OF 'laws.FnExactFindTwice'. -/
def fnExactFindTwiceUptoCard : Claim7 := { stood := { row := fnExactFindTwiceUptoRow, standIns := [], harness := (true, "17aa55fea2042c47d0dc4d2e86a22601b89e158f7546cdb2b2643207608885bd"), looks := false }, kinds := [], alts := [], laidByText := true, laidKinds := [.data, .pinned], laidTests := true, laidLooks := .later }
def FnExactFindTwiceUptoCardSaid : Prop := Claim7.holds Tryz.pinned (.plain (OpenSpec.upto fnExactFindTwiceSpec)) fnExactFindTwiceUptoCard

/-- THE SECOND FORM's CARD OF 'laws.FnExactFindUnused'. -/
def fnExactFindUnusedUptoCard : Claim7 := { stood := { row := fnExactFindUnusedUptoRow, standIns := [], harness := (true, "17aa55fea2042c47d0dc4d2e86a22601b89e158f7546cdb2b2643207608885bd"), looks := false }, kinds := [], alts := [], laidByText := true, laidKinds := [.data, .pinned], laidTests := true, laidLooks := .later }
def FnExactFindUnusedUptoCardSaid : Prop := Claim7.holds Tryz.pinned (.plain (OpenSpec.upto fnExactFindUnusedSpec)) fnExactFindUnusedUptoCard

/-- THE SECOND FORM's CARD OF 'laws.FnExactFindDeep'. -/
def fnExactFindDeepUptoCard : Claim7 := { stood := { row := fnExactFindDeepUptoRow, standIns := [], harness := (true, "17aa55fea2042c47d0dc4d2e86a22601b89e158f7546cdb2b2643207608885bd"), looks := false }, kinds := [], alts := [], laidByText := true, laidKinds := [.data, .data, .data, .data, .pinned], laidTests := true, laidLooks := .later }
def FnExactFindDeepUptoCardSaid : Prop := Claim7.holds Tryz.pinned (.plain (OpenSpec.upto fnExactFindDeepSpec)) fnExactFindDeepUptoCard

/-- THE SECOND FORM's CARD OF 'laws.FnFinds'. -/
def fnFindsUptoCard : Claim7 := { stood := { row := fnFindsUptoRow, standIns := [], harness := (true, "17aa55fea2042c47d0dc4d2e86a22601b89e158f7546cdb2b2643207608885bd"), looks := false }, kinds := [], alts := [], laidByText := true, laidKinds := [.data, .data, .data, .data, .pinned], laidTests := true, laidLooks := .later }
def FnFindsUptoCardSaid : Prop := Claim7.holds Tryz.pinned (.plain (OpenSpec.upto fnFindsSpec)) fnFindsUptoCard

/-- THE SECOND FORM's CARD OF 'laws.FnExactFindAll'. -/
def fnExactFindAllUptoCard : Claim7 := { stood := { row := fnExactFindAllUptoRow, standIns := [], harness := (true, "17aa55fea2042c47d0dc4d2e86a22601b89e158f7546cdb2b2643207608885bd"), looks := false }, kinds := [], alts := [], laidByText := true, laidKinds := [.data, .data, .data, .data, .pinned], laidTests := true, laidLooks := .later }
def FnExactFindAllUptoCardSaid : Prop := Claim7.holds Tryz.pinned (.plain (OpenSpec.upto fnExactFindAllSpec)) fnExactFindAllUptoCard
end Rows
end Go.Proofs.YtcbbokbgmalpgaaGreatDoor
