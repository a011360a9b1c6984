/-
  DERIVED. GIVEN WITH THE SEED: THE CARDS: each row of YtpfanhheodiamaaGreatDoorRows.lean that lists a variable, with what it lists TIED to the program's text (the seventh form; the later family's looks); each row that meets fmt, with fmt's text TOLD by the authors' own Lean function (tested against real Go, not proved from fmt's source: count such statements apart). THE CARD IS WHAT COUNTS. Prove the row's statement (the work); the ties are given (YtpfanhheodiamaaGreatDoorTie.lean); close each card by the builder's one call (the guide's Derived/Test/ToyasCard.lean, 'card_holds'). Laid BY PROGRAM, IN A SANDBOX (cutbox-door.mjs). By AI agents, Wed Nov 11 2026. No macro, syntax, notation, axiom, sorry.
-/
import Derived.Test.YtpfanhheodiamaaGreatDoorRows
import GoSem.ClaimSeven
namespace Go.Proofs.YtpfanhheodiamaaGreatDoor
namespace Rows

/-- THE TIED CARD OF 'laws.FnExactFirstSign'. -/
def fnExactFirstSignCard : Claim7 := { stood := { row := fnExactFirstSignRow, standIns := [], harness := (true, "39a0542c5f11a1147f16e05d4a41ab54e607866ecf1f2f242b618db7169532c1"), looks := false }, kinds := [], alts := [], laidByText := true, laidKinds := [.data, .pinned], laidTests := true, laidLooks := .later }
def FnExactFirstSignCardSaid : Prop := Claim7.holds Tryz.pinned (.plain (OpenSpec.ofChange fnExactFirstSignSpec)) fnExactFirstSignCard

/-- THE TIED CARD OF 'laws.FnExactLineOfNode'. -/
def fnExactLineOfNodeCard : Claim7 := { stood := { row := fnExactLineOfNodeRow, standIns := [], harness := (true, "39a0542c5f11a1147f16e05d4a41ab54e607866ecf1f2f242b618db7169532c1"), looks := false }, kinds := [], alts := [], laidByText := true, laidKinds := [.data, .pinned], laidTests := true, laidLooks := .later }
def FnExactLineOfNodeCardSaid : Prop := Claim7.holds Tryz.pinned (.plain (OpenSpec.ofChange fnExactLineOfNodeSpec)) fnExactLineOfNodeCard

/-- THE TIED CARD OF 'laws.FnExactTreated'. -/
def fnExactTreatedCard : Claim7 := { stood := { row := fnExactTreatedRow, standIns := [], harness := (true, "39a0542c5f11a1147f16e05d4a41ab54e607866ecf1f2f242b618db7169532c1"), looks := false }, kinds := [], alts := [], laidByText := true, laidKinds := [.data, .data, .data, .data, .pinned], laidTests := true, laidLooks := .later }
def FnExactTreatedCardSaid : Prop := Claim7.holds Tryz.pinned (.plain (OpenSpec.ofChange fnExactTreatedSpec)) fnExactTreatedCard

/-- THE SECOND FORM's CARD OF 'laws.FnExactFirstSign'. -/
def fnExactFirstSignUptoCard : Claim7 := { stood := { row := fnExactFirstSignUptoRow, standIns := [], harness := (true, "39a0542c5f11a1147f16e05d4a41ab54e607866ecf1f2f242b618db7169532c1"), looks := false }, kinds := [], alts := [], laidByText := true, laidKinds := [.data, .pinned], laidTests := true, laidLooks := .later }
def FnExactFirstSignUptoCardSaid : Prop := Claim7.holds Tryz.pinned (.plain (OpenSpec.upto fnExactFirstSignSpec)) fnExactFirstSignUptoCard

/-- THE SECOND FORM's CARD OF 'laws.FnExactLineOfNode'. -/
def fnExactLineOfNodeUptoCard : Claim7 := { stood := { row := fnExactLineOfNodeUptoRow, standIns := [], harness := (true, "39a0542c5f11a1147f16e05d4a41ab54e607866ecf1f2f242b618db7169532c1"), looks := false }, kinds := [], alts := [], laidByText := true, laidKinds := [.data, .pinned], laidTests := true, laidLooks := .later }
def FnExactLineOfNodeUptoCardSaid : Prop := Claim7.holds Tryz.pinned (.plain (OpenSpec.upto fnExactLineOfNodeSpec)) fnExactLineOfNodeUptoCard

/-- THE SECOND FORM's CARD OF 'laws.FnExactTreated'. -/
def fnExactTreatedUptoCard : Claim7 := { stood := { row := fnExactTreatedUptoRow, standIns := [], harness := (true, "39a0542c5f11a1147f16e05d4a41ab54e607866ecf1f2f242b618db7169532c1"), looks := false }, kinds := [], alts := [], laidByText := true, laidKinds := [.data, .data, .data, .data, .pinned], laidTests := true, laidLooks := .later }
def FnExactTreatedUptoCardSaid : Prop := Claim7.holds Tryz.pinned (.plain (OpenSpec.upto fnExactTreatedSpec)) fnExactTreatedUptoCard
end Rows
end Go.Proofs.YtpfanhheodiamaaGreatDoor
