/-
  DERIVED. GIVEN WITH THE SEED: THE CARDS: each row of YtgceecnlgjmghaaDoorRows.lean that lists a variable, with what it lists TIED to the program's text (the seventh form; the later family's looks); each row that meets fmt, with fmt's text TOLD by the authors' own Lean function (tested against real Go, not proved from fmt's source: count such statements apart). THE CARD IS WHAT COUNTS. Prove the row's statement (the work); the ties are given (YtgceecnlgjmghaaDoorTie.lean); close each card by the builder's one call (the guide's Derived/Test/ToyasCard.lean, 'card_holds'). Laid BY PROGRAM, IN A SANDBOX (cutbox-door.mjs). By AI agents, Wed Nov 11 2026. No macro, syntax, notation, axiom, sorry.
-/
import Derived.Test.YtgceecnlgjmghaaDoorRows
import GoSem.ClaimSeven
namespace Go.Proofs.YtgceecnlgjmghaaDoor
namespace Rows

/-- THE TIED CARD OF 'quittancelaw28.SchedTells'. -/
def schedTellsCard : Claim7 := { stood := { row := schedTellsRow, standIns := [], harness := (true, "e771559e3804e9de37f69b87da1d4d44009ebe173cfbed74ee72fab1ddaef6f2"), looks := false }, kinds := [], alts := [], laidByText := true, laidKinds := [.data], laidTests := true, laidLooks := .later }
def SchedTellsCardSaid : Prop := Claim7.holds Tryd.pinned (.plain (OpenSpec.ofChange schedTellsSpec)) schedTellsCard

/-- THE TIED CARD OF 'quittancelaw28.SchedMakes'. -/
def schedMakesCard : Claim7 := { stood := { row := schedMakesRow, standIns := [], harness := (true, "e771559e3804e9de37f69b87da1d4d44009ebe173cfbed74ee72fab1ddaef6f2"), looks := false }, kinds := [], alts := [], laidByText := true, laidKinds := [.data], laidTests := true, laidLooks := .later }
def SchedMakesCardSaid : Prop := Claim7.holds Tryd.pinned (.plain (OpenSpec.ofChange schedMakesSpec)) schedMakesCard

/-- THE TIED CARD OF 'quittancelaw28.SchedWhole'. -/
def schedWholeCard : Claim7 := { stood := { row := schedWholeRow, standIns := [], harness := (true, "e771559e3804e9de37f69b87da1d4d44009ebe173cfbed74ee72fab1ddaef6f2"), looks := false }, kinds := [], alts := [], laidByText := true, laidKinds := [.data], laidTests := true, laidLooks := .later }
def SchedWholeCardSaid : Prop := Claim7.holds Tryd.pinned (.plain (OpenSpec.ofChange schedWholeSpec)) schedWholeCard

/-- THE TIED CARD OF 'quittancelaw28.SchedFalls'. -/
def schedFallsCard : Claim7 := { stood := { row := schedFallsRow, standIns := [], harness := (true, "e771559e3804e9de37f69b87da1d4d44009ebe173cfbed74ee72fab1ddaef6f2"), looks := false }, kinds := [], alts := [], laidByText := true, laidKinds := [.data], laidTests := true, laidLooks := .later }
def SchedFallsCardSaid : Prop := Claim7.holds Tryd.pinned (.plain (OpenSpec.ofChange schedFallsSpec)) schedFallsCard

/-- THE TIED CARD OF 'quittancelaw28.SchedEnds'. -/
def schedEndsCard : Claim7 := { stood := { row := schedEndsRow, standIns := [], harness := (true, "e771559e3804e9de37f69b87da1d4d44009ebe173cfbed74ee72fab1ddaef6f2"), looks := false }, kinds := [], alts := [], laidByText := true, laidKinds := [.data], laidTests := true, laidLooks := .later }
def SchedEndsCardSaid : Prop := Claim7.holds Tryd.pinned (.plain (OpenSpec.ofChange schedEndsSpec)) schedEndsCard

/-- THE SECOND FORM's CARD OF 'quittancelaw28.SchedTells'. -/
def schedTellsUptoCard : Claim7 := { stood := { row := schedTellsUptoRow, standIns := [], harness := (true, "e771559e3804e9de37f69b87da1d4d44009ebe173cfbed74ee72fab1ddaef6f2"), looks := false }, kinds := [], alts := [], laidByText := true, laidKinds := [.data], laidTests := true, laidLooks := .later }
def SchedTellsUptoCardSaid : Prop := Claim7.holds Tryd.pinned (.plain (OpenSpec.upto schedTellsSpec)) schedTellsUptoCard

/-- THE SECOND FORM's CARD OF 'quittancelaw28.SchedMakes'. -/
def schedMakesUptoCard : Claim7 := { stood := { row := schedMakesUptoRow, standIns := [], harness := (true, "e771559e3804e9de37f69b87da1d4d44009ebe173cfbed74ee72fab1ddaef6f2"), looks := false }, kinds := [], alts := [], laidByText := true, laidKinds := [.data], laidTests := true, laidLooks := .later }
def SchedMakesUptoCardSaid : Prop := Claim7.holds Tryd.pinned (.plain (OpenSpec.upto schedMakesSpec)) schedMakesUptoCard

/-- THE SECOND FORM's CARD OF 'quittancelaw28.SchedWhole'. -/
def schedWholeUptoCard : Claim7 := { stood := { row := schedWholeUptoRow, standIns := [], harness := (true, "e771559e3804e9de37f69b87da1d4d44009ebe173cfbed74ee72fab1ddaef6f2"), looks := false }, kinds := [], alts := [], laidByText := true, laidKinds := [.data], laidTests := true, laidLooks := .later }
def SchedWholeUptoCardSaid : Prop := Claim7.holds Tryd.pinned (.plain (OpenSpec.upto schedWholeSpec)) schedWholeUptoCard

/-- THE SECOND FORM's CARD OF 'quittancelaw28.SchedFalls'. -/
def schedFallsUptoCard : Claim7 := { stood := { row := schedFallsUptoRow, standIns := [], harness := (true, "e771559e3804e9de37f69b87da1d4d44009ebe173cfbed74ee72fab1ddaef6f2"), looks := false }, kinds := [], alts := [], laidByText := true, laidKinds := [.data], laidTests := true, laidLooks := .later }
def SchedFallsUptoCardSaid : Prop := Claim7.holds Tryd.pinned (.plain (OpenSpec.upto schedFallsSpec)) schedFallsUptoCard

/-- THE SECOND FORM's CARD OF 'quittancelaw28.SchedEnds'. -/
def schedEndsUptoCard : Claim7 := { stood := { row := schedEndsUptoRow, standIns := [], harness := (true, "e771559e3804e9de37f69b87da1d4d44009ebe173cfbed74ee72fab1ddaef6f2"), looks := false }, kinds := [], alts := [], laidByText := true, laidKinds := [.data], laidTests := true, laidLooks := .later }
def SchedEndsUptoCardSaid : Prop := Claim7.holds Tryd.pinned (.plain (OpenSpec.upto schedEndsSpec)) schedEndsUptoCard
end Rows
end Go.Proofs.YtgceecnlgjmghaaDoor
