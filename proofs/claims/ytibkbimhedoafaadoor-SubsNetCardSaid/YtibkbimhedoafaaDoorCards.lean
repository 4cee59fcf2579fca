/-
  DERIVED. GIVEN WITH THE SEED: THE CARDS: each row of YtibkbimhedoafaaDoorRows.lean that lists a variable, with what it lists TIED to the program's text (the seventh form; the later family's looks); each row that meets fmt, with fmt's text TOLD by the authors' own Lean function (tested against real Go, not proved from fmt's source: count such statements apart). THE CARD IS WHAT COUNTS. Prove the row's statement (the work); the ties are given (YtibkbimhedoafaaDoorTie.lean); close each card by the builder's one call (the guide's Derived/Test/ToyasCard.lean, 'card_holds'). Laid BY PROGRAM, IN A SANDBOX (cutbox-door.mjs). By AI agents, Wed Nov 11 2026. No macro, syntax, notation, axiom, sorry.
-/
import Derived.Test.YtibkbimhedoafaaDoorRows
import GoSem.ClaimSeven
namespace Go.Proofs.YtibkbimhedoafaaDoor
namespace Rows

/-- THE TIED CARD OF 'quittancelaw23.SubsChange'. -/
def subsChangeCard : Claim7 := { stood := { row := subsChangeRow, standIns := [], harness := (true, "7a10f9ece84559777ae1b8c1d5f8a62914ebf1442127847e92a999e9a15a440a"), looks := false }, kinds := [], alts := [], laidByText := true, laidKinds := [.data], laidTests := true, laidLooks := .later }
def SubsChangeCardSaid : Prop := Claim7.holds Tryd.pinned (.plain (OpenSpec.ofChange subsChangeSpec)) subsChangeCard

/-- THE TIED CARD OF 'quittancelaw23.SubsCancel'. -/
def subsCancelCard : Claim7 := { stood := { row := subsCancelRow, standIns := [], harness := (true, "7a10f9ece84559777ae1b8c1d5f8a62914ebf1442127847e92a999e9a15a440a"), looks := false }, kinds := [], alts := [], laidByText := true, laidKinds := [.data], laidTests := true, laidLooks := .later }
def SubsCancelCardSaid : Prop := Claim7.holds Tryd.pinned (.plain (OpenSpec.ofChange subsCancelSpec)) subsCancelCard

/-- THE TIED CARD OF 'quittancelaw23.SubsWhole'. -/
def subsWholeCard : Claim7 := { stood := { row := subsWholeRow, standIns := [], harness := (true, "7a10f9ece84559777ae1b8c1d5f8a62914ebf1442127847e92a999e9a15a440a"), looks := false }, kinds := [], alts := [], laidByText := true, laidKinds := [.data], laidTests := true, laidLooks := .later }
def SubsWholeCardSaid : Prop := Claim7.holds Tryd.pinned (.plain (OpenSpec.ofChange subsWholeSpec)) subsWholeCard

/-- THE TIED CARD OF 'quittancelaw23.SubsDue'. -/
def subsDueCard : Claim7 := { stood := { row := subsDueRow, standIns := [], harness := (true, "7a10f9ece84559777ae1b8c1d5f8a62914ebf1442127847e92a999e9a15a440a"), looks := false }, kinds := [], alts := [], laidByText := true, laidKinds := [.data], laidTests := true, laidLooks := .later }
def SubsDueCardSaid : Prop := Claim7.holds Tryd.pinned (.plain (OpenSpec.ofChange subsDueSpec)) subsDueCard

/-- THE TIED CARD OF 'quittancelaw23.SubsEnds'. -/
def subsEndsCard : Claim7 := { stood := { row := subsEndsRow, standIns := [], harness := (true, "7a10f9ece84559777ae1b8c1d5f8a62914ebf1442127847e92a999e9a15a440a"), looks := false }, kinds := [], alts := [], laidByText := true, laidKinds := [.data], laidTests := true, laidLooks := .later }
def SubsEndsCardSaid : Prop := Claim7.holds Tryd.pinned (.plain (OpenSpec.ofChange subsEndsSpec)) subsEndsCard

/-- THE TIED CARD OF 'quittancelaw23.SubsNet'. -/
def subsNetCard : Claim7 := { stood := { row := subsNetRow, standIns := [], harness := (true, "7a10f9ece84559777ae1b8c1d5f8a62914ebf1442127847e92a999e9a15a440a"), looks := false }, kinds := [], alts := [], laidByText := true, laidKinds := [.data], laidTests := true, laidLooks := .later }
def SubsNetCardSaid : Prop := Claim7.holds Tryd.pinned (.plain (OpenSpec.ofChange subsNetSpec)) subsNetCard

/-- THE SECOND FORM's CARD OF 'quittancelaw23.SubsChange'. -/
def subsChangeUptoCard : Claim7 := { stood := { row := subsChangeUptoRow, standIns := [], harness := (true, "7a10f9ece84559777ae1b8c1d5f8a62914ebf1442127847e92a999e9a15a440a"), looks := false }, kinds := [], alts := [], laidByText := true, laidKinds := [.data], laidTests := true, laidLooks := .later }
def SubsChangeUptoCardSaid : Prop := Claim7.holds Tryd.pinned (.plain (OpenSpec.upto subsChangeSpec)) subsChangeUptoCard

/-- THE SECOND FORM's CARD OF 'quittancelaw23.SubsCancel'. -/
def subsCancelUptoCard : Claim7 := { stood := { row := subsCancelUptoRow, standIns := [], harness := (true, "7a10f9ece84559777ae1b8c1d5f8a62914ebf1442127847e92a999e9a15a440a"), looks := false }, kinds := [], alts := [], laidByText := true, laidKinds := [.data], laidTests := true, laidLooks := .later }
def SubsCancelUptoCardSaid : Prop := Claim7.holds Tryd.pinned (.plain (OpenSpec.upto subsCancelSpec)) subsCancelUptoCard

/-- THE SECOND FORM's CARD OF 'quittancelaw23.SubsWhole'. -/
def subsWholeUptoCard : Claim7 := { stood := { row := subsWholeUptoRow, standIns := [], harness := (true, "7a10f9ece84559777ae1b8c1d5f8a62914ebf1442127847e92a999e9a15a440a"), looks := false }, kinds := [], alts := [], laidByText := true, laidKinds := [.data], laidTests := true, laidLooks := .later }
def SubsWholeUptoCardSaid : Prop := Claim7.holds Tryd.pinned (.plain (OpenSpec.upto subsWholeSpec)) subsWholeUptoCard

/-- THE SECOND FORM's CARD OF 'quittancelaw23.SubsDue'. -/
def subsDueUptoCard : Claim7 := { stood := { row := subsDueUptoRow, standIns := [], harness := (true, "7a10f9ece84559777ae1b8c1d5f8a62914ebf1442127847e92a999e9a15a440a"), looks := false }, kinds := [], alts := [], laidByText := true, laidKinds := [.data], laidTests := true, laidLooks := .later }
def SubsDueUptoCardSaid : Prop := Claim7.holds Tryd.pinned (.plain (OpenSpec.upto subsDueSpec)) subsDueUptoCard

/-- THE SECOND FORM's CARD OF 'quittancelaw23.SubsEnds'. -/
def subsEndsUptoCard : Claim7 := { stood := { row := subsEndsUptoRow, standIns := [], harness := (true, "7a10f9ece84559777ae1b8c1d5f8a62914ebf1442127847e92a999e9a15a440a"), looks := false }, kinds := [], alts := [], laidByText := true, laidKinds := [.data], laidTests := true, laidLooks := .later }
def SubsEndsUptoCardSaid : Prop := Claim7.holds Tryd.pinned (.plain (OpenSpec.upto subsEndsSpec)) subsEndsUptoCard

/-- THE SECOND FORM's CARD OF 'quittancelaw23.SubsNet'. -/
def subsNetUptoCard : Claim7 := { stood := { row := subsNetUptoRow, standIns := [], harness := (true, "7a10f9ece84559777ae1b8c1d5f8a62914ebf1442127847e92a999e9a15a440a"), looks := false }, kinds := [], alts := [], laidByText := true, laidKinds := [.data], laidTests := true, laidLooks := .later }
def SubsNetUptoCardSaid : Prop := Claim7.holds Tryd.pinned (.plain (OpenSpec.upto subsNetSpec)) subsNetUptoCard
end Rows
end Go.Proofs.YtibkbimhedoafaaDoor
