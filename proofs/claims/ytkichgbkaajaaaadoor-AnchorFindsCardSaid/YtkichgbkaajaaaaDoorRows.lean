/-
  NARROWER THAN 'FOR EVERY INPUT', by the rows' own cells (each row's printed sentence says how): AnchorAts: laid · AnchorBounds: laid · AnchorFinds: laid · AnchorRises: laid · AnchorLong: laid.
  DERIVED. THE GIVEN ROWS OF THIS SEAT. 5 by the template 'for every input the law returns true; each argument reads behind the call as it read before'; 0 by the template 'total and deterministic' (their statements: YtkichgbkaajaaaaDoorTotals.lean).
  GIVEN WITH THE SEED: the statements are not yours to turn. If you find one false, say at which input.
  Laid BY PROGRAM, IN A SANDBOX (cutbox-rows.mjs): the forced cells as the released guide's own fill.sh prints them over the translation d94180978713ae9b… (all of the seat's roots in one cut). By AI agents, Wed Nov 11 2026. No macro, syntax, notation, axiom, sorry.
-/
import Derived.Test.YtkichgbkaajaaaaDoorChecked
import GoSem.Claim
import GoSem.ClaimJoined
import GoSem.ClaimMapViews
import Derived.JoinedTies
import Derived.KernelRfl
namespace Go.Proofs.YtkichgbkaajaaaaDoor
/- THE CELL 'sum', in the pinned program and in every row, IS THE sha256 OF THE DUMP (.gsa) THAT YtkichgbkaajaaaaDoorProg.lean LOADS. Nothing in Lean hashes anything: it is a label: what it is worth is what the hold of that sum in a sandbox is worth. -/
noncomputable def Tryd.pinned : Pinned := { name := "ytkichgbkaajaaaadoor", sum := "d94180978713ae9bf70688d3b2e0f8410e4b22c6aa9e0fba55d7616d7ed441bc", checked := Tryd.checked }
namespace Rows
def none {H : Type} : Left H := { results := [], args := [] }

/- WHAT THE LISTED PACKAGE-LEVEL VARIABLES READ AS WHEN THE CALL BEGINS. Each datum BY PROGRAM (the guide's laid-datum.mjs) off the statement by which the dump's own 'gosem.cut.vars' lays the variable. In a bare row this is a premise. The card (YtkichgbkaajaaaaDoorCards.lean) ties it to the program's text. -/
def laid_quittance_civil_ahead {H : Type} : DataW H := .agg [.lit (.int .i64 0), .lit (.int .i64 31), .lit (.int .i64 59), .lit (.int .i64 90), .lit (.int .i64 120), .lit (.int .i64 151), .lit (.int .i64 181), .lit (.int .i64 212), .lit (.int .i64 243), .lit (.int .i64 273), .lit (.int .i64 304), .lit (.int .i64 334), .lit (.int .i64 365)]

/-- 'quittancelaw09.AnchorAts': WHATEVER THE INPUT: true; the input reads as it did. -/
def anchorAtsSpec : ChangeSpec := { name := "anchorAts", fn := fun _ => fun
  | [d1, d2, d3] => { results := [.lit (.bool true)], args := [d1, d2, d3] }
  | _ => none }
def anchorAtsRow : OpenClaim := { program := "ytkichgbkaajaaaadoor", sum := "d94180978713ae9bf70688d3b2e0f8410e4b22c6aa9e0fba55d7616d7ed441bc", func := "quittance/quittancelaw09.AnchorAts", spec := "anchorAts", unfollowed := true, recurses := true, named := ["quittance/civil.ahead"], apart := false, laid := [("quittance/civil.ahead", laid_quittance_civil_ahead)] }
def AnchorAtsSaid : Prop := anchorAtsRow.holds Tryd.pinned (OpenSpec.ofChange anchorAtsSpec)

/-- ITS FALSE NEIGHBOUR: 'it returns false'. Refute it at one input. -/
def anchorAtsWrong : ChangeSpec := { name := "anchorAts", fn := fun _ => fun
  | [d1, d2, d3] => { results := [.lit (.bool false)], args := [d1, d2, d3] }
  | _ => none }
def AnchorAtsWrongFalsely : Prop := anchorAtsRow.holds Tryd.pinned (OpenSpec.ofChange anchorAtsWrong)

/-- 'quittancelaw09.AnchorBounds': WHATEVER THE INPUT: true; the input reads as it did. -/
def anchorBoundsSpec : ChangeSpec := { name := "anchorBounds", fn := fun _ => fun
  | [d1, d2] => { results := [.lit (.bool true)], args := [d1, d2] }
  | _ => none }
def anchorBoundsRow : OpenClaim := { program := "ytkichgbkaajaaaadoor", sum := "d94180978713ae9bf70688d3b2e0f8410e4b22c6aa9e0fba55d7616d7ed441bc", func := "quittance/quittancelaw09.AnchorBounds", spec := "anchorBounds", unfollowed := true, recurses := true, named := ["quittance/civil.ahead"], apart := false, laid := [("quittance/civil.ahead", laid_quittance_civil_ahead)] }
def AnchorBoundsSaid : Prop := anchorBoundsRow.holds Tryd.pinned (OpenSpec.ofChange anchorBoundsSpec)

/-- ITS FALSE NEIGHBOUR: 'it returns false'. Refute it at one input. -/
def anchorBoundsWrong : ChangeSpec := { name := "anchorBounds", fn := fun _ => fun
  | [d1, d2] => { results := [.lit (.bool false)], args := [d1, d2] }
  | _ => none }
def AnchorBoundsWrongFalsely : Prop := anchorBoundsRow.holds Tryd.pinned (OpenSpec.ofChange anchorBoundsWrong)

/-- 'quittancelaw09.AnchorFinds': WHATEVER THE INPUT: true; the input reads as it did. -/
def anchorFindsSpec : ChangeSpec := { name := "anchorFinds", fn := fun _ => fun
  | [d1, d2] => { results := [.lit (.bool true)], args := [d1, d2] }
  | _ => none }
def anchorFindsRow : OpenClaim := { program := "ytkichgbkaajaaaadoor", sum := "d94180978713ae9bf70688d3b2e0f8410e4b22c6aa9e0fba55d7616d7ed441bc", func := "quittance/quittancelaw09.AnchorFinds", spec := "anchorFinds", unfollowed := true, recurses := true, named := ["quittance/civil.ahead"], apart := false, laid := [("quittance/civil.ahead", laid_quittance_civil_ahead)] }
def AnchorFindsSaid : Prop := anchorFindsRow.holds Tryd.pinned (OpenSpec.ofChange anchorFindsSpec)

/-- ITS FALSE NEIGHBOUR: 'it returns false'. Refute it at one input. -/
def anchorFindsWrong : ChangeSpec := { name := "anchorFinds", fn := fun _ => fun
  | [d1, d2] => { results := [.lit (.bool false)], args := [d1, d2] }
  | _ => none }
def AnchorFindsWrongFalsely : Prop := anchorFindsRow.holds Tryd.pinned (OpenSpec.ofChange anchorFindsWrong)

/-- 'quittancelaw09.AnchorRises': WHATEVER THE INPUT: true; the input reads as it did. -/
def anchorRisesSpec : ChangeSpec := { name := "anchorRises", fn := fun _ => fun
  | [d1, d2, d3] => { results := [.lit (.bool true)], args := [d1, d2, d3] }
  | _ => none }
def anchorRisesRow : OpenClaim := { program := "ytkichgbkaajaaaadoor", sum := "d94180978713ae9bf70688d3b2e0f8410e4b22c6aa9e0fba55d7616d7ed441bc", func := "quittance/quittancelaw09.AnchorRises", spec := "anchorRises", unfollowed := true, recurses := true, named := ["quittance/civil.ahead"], apart := false, laid := [("quittance/civil.ahead", laid_quittance_civil_ahead)] }
def AnchorRisesSaid : Prop := anchorRisesRow.holds Tryd.pinned (OpenSpec.ofChange anchorRisesSpec)

/-- ITS FALSE NEIGHBOUR: 'it returns false'. Refute it at one input. -/
def anchorRisesWrong : ChangeSpec := { name := "anchorRises", fn := fun _ => fun
  | [d1, d2, d3] => { results := [.lit (.bool false)], args := [d1, d2, d3] }
  | _ => none }
def AnchorRisesWrongFalsely : Prop := anchorRisesRow.holds Tryd.pinned (OpenSpec.ofChange anchorRisesWrong)

/-- 'quittancelaw09.AnchorLong': WHATEVER THE INPUT: true; the input reads as it did. -/
def anchorLongSpec : ChangeSpec := { name := "anchorLong", fn := fun _ => fun
  | [d1, d2, d3] => { results := [.lit (.bool true)], args := [d1, d2, d3] }
  | _ => none }
def anchorLongRow : OpenClaim := { program := "ytkichgbkaajaaaadoor", sum := "d94180978713ae9bf70688d3b2e0f8410e4b22c6aa9e0fba55d7616d7ed441bc", func := "quittance/quittancelaw09.AnchorLong", spec := "anchorLong", unfollowed := true, recurses := true, named := ["quittance/civil.ahead"], apart := false, laid := [("quittance/civil.ahead", laid_quittance_civil_ahead)] }
def AnchorLongSaid : Prop := anchorLongRow.holds Tryd.pinned (OpenSpec.ofChange anchorLongSpec)

/-- ITS FALSE NEIGHBOUR: 'it returns false'. Refute it at one input. -/
def anchorLongWrong : ChangeSpec := { name := "anchorLong", fn := fun _ => fun
  | [d1, d2, d3] => { results := [.lit (.bool false)], args := [d1, d2, d3] }
  | _ => none }
def AnchorLongWrongFalsely : Prop := anchorLongRow.holds Tryd.pinned (OpenSpec.ofChange anchorLongWrong)

/- THE SECOND FORM. 'bulk': how many values and letters a reading holds, each counted each time it is reached (what is shared counts as often as it is met; a slice's spare places count too). A statement '..UptoSaid' is the law's where the arguments, and the package variables that the reading takes, are together of bulk at most 1048576: NARROWER than '..Said'. Prove '..Said' where nothing that the law and all that it calls make is longer than what came in: it says more and counts as full. Else prove '..UptoSaid'. A law counts once. -/
mutual
def uptoBulk {H : Type} : DataW H → Nat
  | .lit (.string bytes) => bytes.length + 1
  | .lit _ => 1
  | .nil => 1
  | .ptr d => uptoBulk d + 1
  | .slice elems spare => uptoBulkAll elems + uptoBulkAll spare + 1
  | .agg parts => uptoBulkAll parts + 1
  | .iface _ d => uptoBulk d + 1
  | .map entries => uptoBulkEntries entries + 1
  | .held _ => 1
def uptoBulkAll {H : Type} : List (DataW H) → Nat
  | [] => 0
  | d :: r => uptoBulk d + uptoBulkAll r
def uptoBulkEntries {H : Type} : List (Lit × DataW H) → Nat
  | [] => 0
  | x :: r => uptoBulkEntry x + uptoBulkEntries r
def uptoBulkEntry {H : Type} : Lit × DataW H → Nat
  | (.string bytes, d) => bytes.length + uptoBulk d + 1
  | (_, d) => uptoBulk d + 1
 end
def uptoSmall : (H : Type) → List (DataW H) → Bool := fun _ ds => decide (uptoBulkAll ds ≤ 1048576)
def OpenSpec.upto (s : _root_.Go.ChangeSpec) : _root_.Go.OpenSpec := { _root_.Go.OpenSpec.ofChange s with cond := some uptoSmall }

/-- 'quittancelaw09.AnchorAts', WHERE WHAT IT READS IS OF BULK AT MOST 1048576: true; the input reads as it did. -/
def anchorAtsUptoRow : OpenClaim := { program := "ytkichgbkaajaaaadoor", sum := "d94180978713ae9bf70688d3b2e0f8410e4b22c6aa9e0fba55d7616d7ed441bc", func := "quittance/quittancelaw09.AnchorAts", spec := "anchorAts", unfollowed := true, recurses := true, named := ["quittance/civil.ahead"], apart := false, laid := [("quittance/civil.ahead", laid_quittance_civil_ahead)], narrowed := true }
def AnchorAtsUptoSaid : Prop := anchorAtsUptoRow.holds Tryd.pinned (OpenSpec.upto anchorAtsSpec)

/-- 'quittancelaw09.AnchorBounds', WHERE WHAT IT READS IS OF BULK AT MOST 1048576: true; the input reads as it did. -/
def anchorBoundsUptoRow : OpenClaim := { program := "ytkichgbkaajaaaadoor", sum := "d94180978713ae9bf70688d3b2e0f8410e4b22c6aa9e0fba55d7616d7ed441bc", func := "quittance/quittancelaw09.AnchorBounds", spec := "anchorBounds", unfollowed := true, recurses := true, named := ["quittance/civil.ahead"], apart := false, laid := [("quittance/civil.ahead", laid_quittance_civil_ahead)], narrowed := true }
def AnchorBoundsUptoSaid : Prop := anchorBoundsUptoRow.holds Tryd.pinned (OpenSpec.upto anchorBoundsSpec)

/-- 'quittancelaw09.AnchorFinds', WHERE WHAT IT READS IS OF BULK AT MOST 1048576: true; the input reads as it did. -/
def anchorFindsUptoRow : OpenClaim := { program := "ytkichgbkaajaaaadoor", sum := "d94180978713ae9bf70688d3b2e0f8410e4b22c6aa9e0fba55d7616d7ed441bc", func := "quittance/quittancelaw09.AnchorFinds", spec := "anchorFinds", unfollowed := true, recurses := true, named := ["quittance/civil.ahead"], apart := false, laid := [("quittance/civil.ahead", laid_quittance_civil_ahead)], narrowed := true }
def AnchorFindsUptoSaid : Prop := anchorFindsUptoRow.holds Tryd.pinned (OpenSpec.upto anchorFindsSpec)

/-- 'quittancelaw09.AnchorRises', WHERE WHAT IT READS IS OF BULK AT MOST 1048576: true; the input reads as it did. -/
def anchorRisesUptoRow : OpenClaim := { program := "ytkichgbkaajaaaadoor", sum := "d94180978713ae9bf70688d3b2e0f8410e4b22c6aa9e0fba55d7616d7ed441bc", func := "quittance/quittancelaw09.AnchorRises", spec := "anchorRises", unfollowed := true, recurses := true, named := ["quittance/civil.ahead"], apart := false, laid := [("quittance/civil.ahead", laid_quittance_civil_ahead)], narrowed := true }
def AnchorRisesUptoSaid : Prop := anchorRisesUptoRow.holds Tryd.pinned (OpenSpec.upto anchorRisesSpec)

/-- 'quittancelaw09.AnchorLong', WHERE WHAT IT READS IS OF BULK AT MOST 1048576: true; the input reads as it did. -/
def anchorLongUptoRow : OpenClaim := { program := "ytkichgbkaajaaaadoor", sum := "d94180978713ae9bf70688d3b2e0f8410e4b22c6aa9e0fba55d7616d7ed441bc", func := "quittance/quittancelaw09.AnchorLong", spec := "anchorLong", unfollowed := true, recurses := true, named := ["quittance/civil.ahead"], apart := false, laid := [("quittance/civil.ahead", laid_quittance_civil_ahead)], narrowed := true }
def AnchorLongUptoSaid : Prop := anchorLongUptoRow.holds Tryd.pinned (OpenSpec.upto anchorLongSpec)

end Rows
end Go.Proofs.YtkichgbkaajaaaaDoor
