/-
  DERIVED. GIVEN WITH THE SEED: THE CARDS: each row of YtkichgbkaajaaaaDoorRows.lean that lists a variable, with what it lists TIED to the program's text (the seventh form; the later family's looks); each row that meets fmt, with fmt's text TOLD by the authors' own Lean function (tested against real Go, not proved from fmt's source: count such statements apart). THE CARD IS WHAT COUNTS. Prove the row's statement (the work); the ties are given (YtkichgbkaajaaaaDoorTie.lean); close each card by the builder's one call (the guide's Derived/Test/ToyasCard.lean, 'card_holds'). Laid BY PROGRAM, IN A SANDBOX (cutbox-door.mjs). By AI agents, Wed Nov 11 2026. No macro, syntax, notation, axiom, sorry.
-/
import Derived.Test.YtkichgbkaajaaaaDoorRows
import GoSem.ClaimSeven
namespace Go.Proofs.YtkichgbkaajaaaaDoor
namespace Rows

/-- THE TIED CARD OF 'quittancelaw09.AnchorAts'. -/
def anchorAtsCard : Claim7 := { stood := { row := anchorAtsRow, standIns := [], harness := (true, "03561199ddd55b9b0d91b1ebe52a65c88e1c01f73dbd91342fac1e07d04c89c0"), looks := false }, kinds := [], alts := [], laidByText := true, laidKinds := [.data], laidTests := true, laidLooks := .later }
def AnchorAtsCardSaid : Prop := Claim7.holds Tryd.pinned (.plain (OpenSpec.ofChange anchorAtsSpec)) anchorAtsCard

/-- THE TIED CARD OF 'quittancelaw09.AnchorBounds'. -/
def anchorBoundsCard : Claim7 := { stood := { row := anchorBoundsRow, standIns := [], harness := (true, "03561199ddd55b9b0d91b1ebe52a65c88e1c01f73dbd91342fac1e07d04c89c0"), looks := false }, kinds := [], alts := [], laidByText := true, laidKinds := [.data], laidTests := true, laidLooks := .later }
def AnchorBoundsCardSaid : Prop := Claim7.holds Tryd.pinned (.plain (OpenSpec.ofChange anchorBoundsSpec)) anchorBoundsCard

/-- THE TIED CARD OF 'quittancelaw09.AnchorFinds'. -/
def anchorFindsCard : Claim7 := { stood := { row := anchorFindsRow, standIns := [], harness := (true, "03561199ddd55b9b0d91b1ebe52a65c88e1c01f73dbd91342fac1e07d04c89c0"), looks := false }, kinds := [], alts := [], laidByText := true, laidKinds := [.data], laidTests := true, laidLooks := .later }
def AnchorFindsCardSaid : Prop := Claim7.holds Tryd.pinned (.plain (OpenSpec.ofChange anchorFindsSpec)) anchorFindsCard

/-- THE TIED CARD OF 'quittancelaw09.AnchorRises'. -/
def anchorRisesCard : Claim7 := { stood := { row := anchorRisesRow, standIns := [], harness := (true, "03561199ddd55b9b0d91b1ebe52a65c88e1c01f73dbd91342fac1e07d04c89c0"), looks := false }, kinds := [], alts := [], laidByText := true, laidKinds := [.data], laidTests := true, laidLooks := .later }
def AnchorRisesCardSaid : Prop := Claim7.holds Tryd.pinned (.plain (OpenSpec.ofChange anchorRisesSpec)) anchorRisesCard

/-- THE TIED CARD OF 'quittancelaw09.AnchorLong'. -/
def anchorLongCard : Claim7 := { stood := { row := anchorLongRow, standIns := [], harness := (true, "03561199ddd55b9b0d91b1ebe52a65c88e1c01f73dbd91342fac1e07d04c89c0"), looks := false }, kinds := [], alts := [], laidByText := true, laidKinds := [.data], laidTests := true, laidLooks := .later }
def AnchorLongCardSaid : Prop := Claim7.holds Tryd.pinned (.plain (OpenSpec.ofChange anchorLongSpec)) anchorLongCard

/-- THE SECOND FORM's CARD OF 'quittancelaw09.AnchorAts'. -/
def anchorAtsUptoCard : Claim7 := { stood := { row := anchorAtsUptoRow, standIns := [], harness := (true, "03561199ddd55b9b0d91b1ebe52a65c88e1c01f73dbd91342fac1e07d04c89c0"), looks := false }, kinds := [], alts := [], laidByText := true, laidKinds := [.data], laidTests := true, laidLooks := .later }
def AnchorAtsUptoCardSaid : Prop := Claim7.holds Tryd.pinned (.plain (OpenSpec.upto anchorAtsSpec)) anchorAtsUptoCard

/-- THE SECOND FORM's CARD OF 'quittancelaw09.AnchorBounds'. -/
def anchorBoundsUptoCard : Claim7 := { stood := { row := anchorBoundsUptoRow, standIns := [], harness := (true, "03561199ddd55b9b0d91b1ebe52a65c88e1c01f73dbd91342fac1e07d04c89c0"), looks := false }, kinds := [], alts := [], laidByText := true, laidKinds := [.data], laidTests := true, laidLooks := .later }
def AnchorBoundsUptoCardSaid : Prop := Claim7.holds Tryd.pinned (.plain (OpenSpec.upto anchorBoundsSpec)) anchorBoundsUptoCard

/-- THE SECOND FORM's CARD OF 'quittancelaw09.AnchorFinds'. -/
def anchorFindsUptoCard : Claim7 := { stood := { row := anchorFindsUptoRow, standIns := [], harness := (true, "03561199ddd55b9b0d91b1ebe52a65c88e1c01f73dbd91342fac1e07d04c89c0"), looks := false }, kinds := [], alts := [], laidByText := true, laidKinds := [.data], laidTests := true, laidLooks := .later }
def AnchorFindsUptoCardSaid : Prop := Claim7.holds Tryd.pinned (.plain (OpenSpec.upto anchorFindsSpec)) anchorFindsUptoCard

/-- THE SECOND FORM's CARD OF 'quittancelaw09.AnchorRises'. -/
def anchorRisesUptoCard : Claim7 := { stood := { row := anchorRisesUptoRow, standIns := [], harness := (true, "03561199ddd55b9b0d91b1ebe52a65c88e1c01f73dbd91342fac1e07d04c89c0"), looks := false }, kinds := [], alts := [], laidByText := true, laidKinds := [.data], laidTests := true, laidLooks := .later }
def AnchorRisesUptoCardSaid : Prop := Claim7.holds Tryd.pinned (.plain (OpenSpec.upto anchorRisesSpec)) anchorRisesUptoCard

/-- THE SECOND FORM's CARD OF 'quittancelaw09.AnchorLong'. -/
def anchorLongUptoCard : Claim7 := { stood := { row := anchorLongUptoRow, standIns := [], harness := (true, "03561199ddd55b9b0d91b1ebe52a65c88e1c01f73dbd91342fac1e07d04c89c0"), looks := false }, kinds := [], alts := [], laidByText := true, laidKinds := [.data], laidTests := true, laidLooks := .later }
def AnchorLongUptoCardSaid : Prop := Claim7.holds Tryd.pinned (.plain (OpenSpec.upto anchorLongSpec)) anchorLongUptoCard
end Rows
end Go.Proofs.YtkichgbkaajaaaaDoor
