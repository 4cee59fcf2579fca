/-
  DERIVED. GIVEN WITH THE SEED: THE CARDS: each row of YtbghkjoejbfnbaaDoorRows.lean that lists a variable, with what it lists TIED to the program's text (the seventh form; the later family's looks); each row that meets fmt, with fmt's text TOLD by the authors' own Lean function (tested against real Go, not proved from fmt's source: count such statements apart). THE CARD IS WHAT COUNTS. Prove the row's statement (the work); the ties are given (YtbghkjoejbfnbaaDoorTie.lean); close each card by the builder's one call (the guide's Derived/Test/ToyasCard.lean, 'card_holds'). Laid BY PROGRAM, IN A SANDBOX (cutbox-door.mjs). By AI agents, Wed Nov 11 2026. No macro, syntax, notation, axiom, sorry.
-/
import Derived.Test.YtbghkjoejbfnbaaDoorRows
import GoSem.ClaimSeven
namespace Go.Proofs.YtbghkjoejbfnbaaDoor
namespace Rows

/-- THE TIED CARD OF 'quittancelaw12.OrderPuts'. -/
def orderPutsCard : Claim7 := { stood := { row := orderPutsRow, standIns := [], harness := (true, "8b823a2e6dfb99a81c26a781c78bf51429f8bddcadb31bb6f63d019c226481f5"), looks := false }, kinds := [], alts := [], laidByText := true, laidKinds := [.data, .pinned], laidTests := true, laidLooks := .later }
def OrderPutsCardSaid : Prop := Claim7.holds Tryd.pinned (.plain (OpenSpec.ofChange orderPutsSpec)) orderPutsCard

/-- THE TIED CARD OF 'quittancelaw12.OrderGets'. -/
def orderGetsCard : Claim7 := { stood := { row := orderGetsRow, standIns := [], harness := (true, "8b823a2e6dfb99a81c26a781c78bf51429f8bddcadb31bb6f63d019c226481f5"), looks := false }, kinds := [], alts := [], laidByText := true, laidKinds := [.data, .pinned], laidTests := true, laidLooks := .later }
def OrderGetsCardSaid : Prop := Claim7.holds Tryd.pinned (.plain (OpenSpec.ofChange orderGetsSpec)) orderGetsCard

/-- THE TIED CARD OF 'quittancelaw12.OrderBack'. -/
def orderBackCard : Claim7 := { stood := { row := orderBackRow, standIns := [], harness := (true, "8b823a2e6dfb99a81c26a781c78bf51429f8bddcadb31bb6f63d019c226481f5"), looks := false }, kinds := [], alts := [], laidByText := true, laidKinds := [.data, .pinned], laidTests := true, laidLooks := .later }
def OrderBackCardSaid : Prop := Claim7.holds Tryd.pinned (.plain (OpenSpec.ofChange orderBackSpec)) orderBackCard

/-- THE TIED CARD OF 'quittancelaw12.OrderKeeps'. -/
def orderKeepsCard : Claim7 := { stood := { row := orderKeepsRow, standIns := [], harness := (true, "8b823a2e6dfb99a81c26a781c78bf51429f8bddcadb31bb6f63d019c226481f5"), looks := false }, kinds := [], alts := [], laidByText := true, laidKinds := [.data, .pinned], laidTests := true, laidLooks := .later }
def OrderKeepsCardSaid : Prop := Claim7.holds Tryd.pinned (.plain (OpenSpec.ofChange orderKeepsSpec)) orderKeepsCard

/-- THE TIED CARD OF 'quittancelaw12.OrderAbove'. -/
def orderAboveCard : Claim7 := { stood := { row := orderAboveRow, standIns := [], harness := (true, "8b823a2e6dfb99a81c26a781c78bf51429f8bddcadb31bb6f63d019c226481f5"), looks := false }, kinds := [], alts := [], laidByText := true, laidKinds := [.data, .pinned], laidTests := true, laidLooks := .later }
def OrderAboveCardSaid : Prop := Claim7.holds Tryd.pinned (.plain (OpenSpec.ofChange orderAboveSpec)) orderAboveCard

/-- THE SECOND FORM's CARD OF 'quittancelaw12.OrderPuts'. -/
def orderPutsUptoCard : Claim7 := { stood := { row := orderPutsUptoRow, standIns := [], harness := (true, "8b823a2e6dfb99a81c26a781c78bf51429f8bddcadb31bb6f63d019c226481f5"), looks := false }, kinds := [], alts := [], laidByText := true, laidKinds := [.data, .pinned], laidTests := true, laidLooks := .later }
def OrderPutsUptoCardSaid : Prop := Claim7.holds Tryd.pinned (.plain (OpenSpec.upto orderPutsSpec)) orderPutsUptoCard

/-- THE SECOND FORM's CARD OF 'quittancelaw12.OrderGets'. -/
def orderGetsUptoCard : Claim7 := { stood := { row := orderGetsUptoRow, standIns := [], harness := (true, "8b823a2e6dfb99a81c26a781c78bf51429f8bddcadb31bb6f63d019c226481f5"), looks := false }, kinds := [], alts := [], laidByText := true, laidKinds := [.data, .pinned], laidTests := true, laidLooks := .later }
def OrderGetsUptoCardSaid : Prop := Claim7.holds Tryd.pinned (.plain (OpenSpec.upto orderGetsSpec)) orderGetsUptoCard

/-- THE SECOND FORM's CARD OF 'quittancelaw12.OrderBack'. -/
def orderBackUptoCard : Claim7 := { stood := { row := orderBackUptoRow, standIns := [], harness := (true, "8b823a2e6dfb99a81c26a781c78bf51429f8bddcadb31bb6f63d019c226481f5"), looks := false }, kinds := [], alts := [], laidByText := true, laidKinds := [.data, .pinned], laidTests := true, laidLooks := .later }
def OrderBackUptoCardSaid : Prop := Claim7.holds Tryd.pinned (.plain (OpenSpec.upto orderBackSpec)) orderBackUptoCard

/-- THE SECOND FORM's CARD OF 'quittancelaw12.OrderKeeps'. -/
def orderKeepsUptoCard : Claim7 := { stood := { row := orderKeepsUptoRow, standIns := [], harness := (true, "8b823a2e6dfb99a81c26a781c78bf51429f8bddcadb31bb6f63d019c226481f5"), looks := false }, kinds := [], alts := [], laidByText := true, laidKinds := [.data, .pinned], laidTests := true, laidLooks := .later }
def OrderKeepsUptoCardSaid : Prop := Claim7.holds Tryd.pinned (.plain (OpenSpec.upto orderKeepsSpec)) orderKeepsUptoCard

/-- THE SECOND FORM's CARD OF 'quittancelaw12.OrderAbove'. -/
def orderAboveUptoCard : Claim7 := { stood := { row := orderAboveUptoRow, standIns := [], harness := (true, "8b823a2e6dfb99a81c26a781c78bf51429f8bddcadb31bb6f63d019c226481f5"), looks := false }, kinds := [], alts := [], laidByText := true, laidKinds := [.data, .pinned], laidTests := true, laidLooks := .later }
def OrderAboveUptoCardSaid : Prop := Claim7.holds Tryd.pinned (.plain (OpenSpec.upto orderAboveSpec)) orderAboveUptoCard
end Rows
end Go.Proofs.YtbghkjoejbfnbaaDoor
