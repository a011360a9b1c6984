/-
  DERIVED. GIVEN WITH THE SEED: THE CARDS: each row of YtgaajcbklkchjaaGreatDoorRows.lean that lists a variable, with what it lists TIED to the program's text (the seventh form; the later family's looks); each row that meets fmt, with fmt's text TOLD by the authors' own Lean function (tested against real Go, not proved from fmt's source: count such statements apart). THE CARD IS WHAT COUNTS. Prove the row's statement (the work); the ties are given (YtgaajcbklkchjaaGreatDoorTie.lean); close each card by the builder's one call (the guide's Derived/Test/ToyasCard.lean, 'card_holds'). Laid BY PROGRAM, IN A SANDBOX (cutbox-door.mjs). By AI agents, Wed Nov 11 2026. No macro, syntax, notation, axiom, sorry.
-/
import Derived.Test.YtgaajcbklkchjaaGreatDoorRows
import GoSem.ClaimSeven
namespace Go.Proofs.YtgaajcbklkchjaaGreatDoor
namespace Rows

/-- THE TIED CARD OF 'laws.FnExactTreated'. -/
def fnExactTreatedCard : Claim7 := { stood := { row := fnExactTreatedRow, standIns := [], harness := (true, "53da70b68812cb05cd593942a6702aac4ef69c53b22a8015a5b61e7635d90acc"), looks := false }, kinds := [], alts := [], laidByText := true, laidKinds := [.data, .data, .data, .data, .pinned], laidTests := true, laidLooks := .later }
def FnExactTreatedCardSaid : Prop := Claim7.holds Tryz.pinned (.plain (OpenSpec.ofChange fnExactTreatedSpec)) fnExactTreatedCard

/-- THE TIED CARD OF 'laws.FnFinds'. -/
def fnFindsCard : Claim7 := { stood := { row := fnFindsRow, standIns := [], harness := (true, "53da70b68812cb05cd593942a6702aac4ef69c53b22a8015a5b61e7635d90acc"), looks := false }, kinds := [], alts := [], laidByText := true, laidKinds := [.data, .data, .data, .data, .pinned], laidTests := true, laidLooks := .later }
def FnFindsCardSaid : Prop := Claim7.holds Tryz.pinned (.plain (OpenSpec.ofChange fnFindsSpec)) fnFindsCard

/-- THE SECOND FORM's CARD OF 'laws.FnExactTreated'. -/
def fnExactTreatedUptoCard : Claim7 := { stood := { row := fnExactTreatedUptoRow, standIns := [], harness := (true, "53da70b68812cb05cd593942a6702aac4ef69c53b22a8015a5b61e7635d90acc"), looks := false }, kinds := [], alts := [], laidByText := true, laidKinds := [.data, .data, .data, .data, .pinned], laidTests := true, laidLooks := .later }
def FnExactTreatedUptoCardSaid : Prop := Claim7.holds Tryz.pinned (.plain (OpenSpec.upto fnExactTreatedSpec)) fnExactTreatedUptoCard

/-- THE SECOND FORM's CARD OF 'laws.FnFinds'. -/
def fnFindsUptoCard : Claim7 := { stood := { row := fnFindsUptoRow, standIns := [], harness := (true, "53da70b68812cb05cd593942a6702aac4ef69c53b22a8015a5b61e7635d90acc"), looks := false }, kinds := [], alts := [], laidByText := true, laidKinds := [.data, .data, .data, .data, .pinned], laidTests := true, laidLooks := .later }
def FnFindsUptoCardSaid : Prop := Claim7.holds Tryz.pinned (.plain (OpenSpec.upto fnFindsSpec)) fnFindsUptoCard
end Rows
end Go.Proofs.YtgaajcbklkchjaaGreatDoor
