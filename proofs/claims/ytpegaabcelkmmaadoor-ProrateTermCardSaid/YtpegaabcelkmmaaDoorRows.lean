/-
  NARROWER THAN 'FOR EVERY INPUT', by the rows' own cells (each row's printed sentence says how): ProrateDues: laid · ProrateChanges: laid · ProrateMonths: laid · ProrateWhole: laid · ProrateSides: laid · ProrateTerm: laid.
  DERIVED. THE GIVEN ROWS OF THIS SEAT. 6 by the template 'for every input the law returns true; each argument reads behind the call as it read before'; 0 by the template 'total and deterministic' (their statements: YtpegaabcelkmmaaDoorTotals.lean).
  GIVEN WITH THE SEED: the statements are not yours to turn. If you find one false, say at which input.
  Laid BY PROGRAM, IN A SANDBOX (cutbox-rows.mjs): the forced cells as the released guide's own fill.sh prints them over the translation 5e700f543fb4ffd0… (all of the seat's roots in one cut). By AI agents, Wed Nov 11 2026. No macro, syntax, notation, axiom, sorry.
-/
import Derived.Test.YtpegaabcelkmmaaDoorChecked
import GoSem.Claim
import GoSem.ClaimJoined
import GoSem.ClaimMapViews
import Derived.JoinedTies
import Derived.KernelRfl
namespace Go.Proofs.YtpegaabcelkmmaaDoor
/- THE CELL 'sum', in the pinned program and in every row, IS THE sha256 OF THE DUMP (.gsa) THAT YtpegaabcelkmmaaDoorProg.lean LOADS. Nothing in Lean hashes anything: it is a label: what it is worth is what the hold of that sum in a sandbox is worth. -/
noncomputable def Tryd.pinned : Pinned := { name := "ytpegaabcelkmmaadoor", sum := "5e700f543fb4ffd0e25ae2b1a4c5bbab7307e41ddeb0990ad864093133eb9114", checked := Tryd.checked }
namespace Rows
def none {H : Type} : Left H := { results := [], args := [] }

/- WHAT THE LISTED PACKAGE-LEVEL VARIABLES READ AS WHEN THE CALL BEGINS. Each datum BY PROGRAM (the guide's laid-datum.mjs) off the statement by which the dump's own 'gosem.cut.vars' lays the variable. In a bare row this is a premise. The card (YtpegaabcelkmmaaDoorCards.lean) ties it to the program's text. -/
def laid_quittance_civil_ahead {H : Type} : DataW H := .agg [.lit (.int .i64 0), .lit (.int .i64 31), .lit (.int .i64 59), .lit (.int .i64 90), .lit (.int .i64 120), .lit (.int .i64 151), .lit (.int .i64 181), .lit (.int .i64 212), .lit (.int .i64 243), .lit (.int .i64 273), .lit (.int .i64 304), .lit (.int .i64 334), .lit (.int .i64 365)]

/-- 'quittancelaw11.ProrateDues': WHATEVER THE INPUT: true; the input reads as it did. -/
def prorateDuesSpec : ChangeSpec := { name := "prorateDues", fn := fun _ => fun
  | [d] => { results := [.lit (.bool true)], args := [d] }
  | _ => none }
def prorateDuesRow : OpenClaim := { program := "ytpegaabcelkmmaadoor", sum := "5e700f543fb4ffd0e25ae2b1a4c5bbab7307e41ddeb0990ad864093133eb9114", func := "quittance/quittancelaw11.ProrateDues", spec := "prorateDues", unfollowed := true, recurses := true, named := ["math/bits.divideError", "math/bits.overflowError", "quittance/civil.ahead"], apart := false, laid := [("quittance/civil.ahead", laid_quittance_civil_ahead)] }
def ProrateDuesSaid : Prop := prorateDuesRow.holds Tryd.pinned (OpenSpec.ofChange prorateDuesSpec)

/-- ITS FALSE NEIGHBOUR: 'it returns false'. Refute it at one input. -/
def prorateDuesWrong : ChangeSpec := { name := "prorateDues", fn := fun _ => fun
  | [d] => { results := [.lit (.bool false)], args := [d] }
  | _ => none }
def ProrateDuesWrongFalsely : Prop := prorateDuesRow.holds Tryd.pinned (OpenSpec.ofChange prorateDuesWrong)

/-- 'quittancelaw11.ProrateChanges': WHATEVER THE INPUT: true; the input reads as it did. -/
def prorateChangesSpec : ChangeSpec := { name := "prorateChanges", fn := fun _ => fun
  | [d1, d2] => { results := [.lit (.bool true)], args := [d1, d2] }
  | _ => none }
def prorateChangesRow : OpenClaim := { program := "ytpegaabcelkmmaadoor", sum := "5e700f543fb4ffd0e25ae2b1a4c5bbab7307e41ddeb0990ad864093133eb9114", func := "quittance/quittancelaw11.ProrateChanges", spec := "prorateChanges", unfollowed := true, recurses := true, named := ["math/bits.divideError", "math/bits.overflowError", "quittance/civil.ahead"], apart := false, laid := [("quittance/civil.ahead", laid_quittance_civil_ahead)] }
def ProrateChangesSaid : Prop := prorateChangesRow.holds Tryd.pinned (OpenSpec.ofChange prorateChangesSpec)

/-- ITS FALSE NEIGHBOUR: 'it returns false'. Refute it at one input. -/
def prorateChangesWrong : ChangeSpec := { name := "prorateChanges", fn := fun _ => fun
  | [d1, d2] => { results := [.lit (.bool false)], args := [d1, d2] }
  | _ => none }
def ProrateChangesWrongFalsely : Prop := prorateChangesRow.holds Tryd.pinned (OpenSpec.ofChange prorateChangesWrong)

/-- 'quittancelaw11.ProrateMonths': WHATEVER THE INPUT: true; the input reads as it did. -/
def prorateMonthsSpec : ChangeSpec := { name := "prorateMonths", fn := fun _ => fun
  | [d1, d2] => { results := [.lit (.bool true)], args := [d1, d2] }
  | _ => none }
def prorateMonthsRow : OpenClaim := { program := "ytpegaabcelkmmaadoor", sum := "5e700f543fb4ffd0e25ae2b1a4c5bbab7307e41ddeb0990ad864093133eb9114", func := "quittance/quittancelaw11.ProrateMonths", spec := "prorateMonths", unfollowed := true, recurses := true, named := ["math/bits.divideError", "math/bits.overflowError", "quittance/civil.ahead"], apart := false, laid := [("quittance/civil.ahead", laid_quittance_civil_ahead)] }
def ProrateMonthsSaid : Prop := prorateMonthsRow.holds Tryd.pinned (OpenSpec.ofChange prorateMonthsSpec)

/-- ITS FALSE NEIGHBOUR: 'it returns false'. Refute it at one input. -/
def prorateMonthsWrong : ChangeSpec := { name := "prorateMonths", fn := fun _ => fun
  | [d1, d2] => { results := [.lit (.bool false)], args := [d1, d2] }
  | _ => none }
def ProrateMonthsWrongFalsely : Prop := prorateMonthsRow.holds Tryd.pinned (OpenSpec.ofChange prorateMonthsWrong)

/-- 'quittancelaw11.ProrateWhole': WHATEVER THE INPUT: true; the input reads as it did. -/
def prorateWholeSpec : ChangeSpec := { name := "prorateWhole", fn := fun _ => fun
  | [d1, d2] => { results := [.lit (.bool true)], args := [d1, d2] }
  | _ => none }
def prorateWholeRow : OpenClaim := { program := "ytpegaabcelkmmaadoor", sum := "5e700f543fb4ffd0e25ae2b1a4c5bbab7307e41ddeb0990ad864093133eb9114", func := "quittance/quittancelaw11.ProrateWhole", spec := "prorateWhole", unfollowed := true, recurses := true, named := ["math/bits.divideError", "math/bits.overflowError", "quittance/civil.ahead"], apart := false, laid := [("quittance/civil.ahead", laid_quittance_civil_ahead)] }
def ProrateWholeSaid : Prop := prorateWholeRow.holds Tryd.pinned (OpenSpec.ofChange prorateWholeSpec)

/-- ITS FALSE NEIGHBOUR: 'it returns false'. Refute it at one input. -/
def prorateWholeWrong : ChangeSpec := { name := "prorateWhole", fn := fun _ => fun
  | [d1, d2] => { results := [.lit (.bool false)], args := [d1, d2] }
  | _ => none }
def ProrateWholeWrongFalsely : Prop := prorateWholeRow.holds Tryd.pinned (OpenSpec.ofChange prorateWholeWrong)

/-- 'quittancelaw11.ProrateSides': WHATEVER THE INPUT: true; the input reads as it did. -/
def prorateSidesSpec : ChangeSpec := { name := "prorateSides", fn := fun _ => fun
  | [d1, d2] => { results := [.lit (.bool true)], args := [d1, d2] }
  | _ => none }
def prorateSidesRow : OpenClaim := { program := "ytpegaabcelkmmaadoor", sum := "5e700f543fb4ffd0e25ae2b1a4c5bbab7307e41ddeb0990ad864093133eb9114", func := "quittance/quittancelaw11.ProrateSides", spec := "prorateSides", unfollowed := true, recurses := true, named := ["math/bits.divideError", "math/bits.overflowError", "quittance/civil.ahead"], apart := false, laid := [("quittance/civil.ahead", laid_quittance_civil_ahead)] }
def ProrateSidesSaid : Prop := prorateSidesRow.holds Tryd.pinned (OpenSpec.ofChange prorateSidesSpec)

/-- ITS FALSE NEIGHBOUR: 'it returns false'. Refute it at one input. -/
def prorateSidesWrong : ChangeSpec := { name := "prorateSides", fn := fun _ => fun
  | [d1, d2] => { results := [.lit (.bool false)], args := [d1, d2] }
  | _ => none }
def ProrateSidesWrongFalsely : Prop := prorateSidesRow.holds Tryd.pinned (OpenSpec.ofChange prorateSidesWrong)

/-- 'quittancelaw11.ProrateTerm': WHATEVER THE INPUT: true; the input reads as it did. -/
def prorateTermSpec : ChangeSpec := { name := "prorateTerm", fn := fun _ => fun
  | [d1, d2, d3] => { results := [.lit (.bool true)], args := [d1, d2, d3] }
  | _ => none }
def prorateTermRow : OpenClaim := { program := "ytpegaabcelkmmaadoor", sum := "5e700f543fb4ffd0e25ae2b1a4c5bbab7307e41ddeb0990ad864093133eb9114", func := "quittance/quittancelaw11.ProrateTerm", spec := "prorateTerm", unfollowed := true, recurses := true, named := ["quittance/civil.ahead", "math/bits.divideError", "math/bits.overflowError"], apart := false, laid := [("quittance/civil.ahead", laid_quittance_civil_ahead)] }
def ProrateTermSaid : Prop := prorateTermRow.holds Tryd.pinned (OpenSpec.ofChange prorateTermSpec)

/-- ITS FALSE NEIGHBOUR: 'it returns false'. Refute it at one input. -/
def prorateTermWrong : ChangeSpec := { name := "prorateTerm", fn := fun _ => fun
  | [d1, d2, d3] => { results := [.lit (.bool false)], args := [d1, d2, d3] }
  | _ => none }
def ProrateTermWrongFalsely : Prop := prorateTermRow.holds Tryd.pinned (OpenSpec.ofChange prorateTermWrong)

/- THE SECOND FORM. 'bulk': how many values and letters a reading holds, each counted each time it is reached (what is shared counts as often as it is met; a slice's spare places count too). A statement '..UptoSaid' is the law's where the arguments, and the package variables that the reading takes, are together of bulk at most 1048576: NARROWER than '..Said'. Prove '..Said' where nothing that the law and all that it calls make is longer than what came in: it says more and counts as full. Else prove '..UptoSaid'. A law counts once. -/
mutual
def uptoBulk {H : Type} : DataW H → Nat
  | .lit (.string bytes) => bytes.length + 1
  | .lit _ => 1
  | .nil => 1
  | .ptr d => uptoBulk d + 1
  | .slice elems spare => uptoBulkAll elems + uptoBulkAll spare + 1
  | .agg parts => uptoBulkAll parts + 1
  | .iface _ d => uptoBulk d + 1
  | .map entries => uptoBulkEntries entries + 1
  | .held _ => 1
def uptoBulkAll {H : Type} : List (DataW H) → Nat
  | [] => 0
  | d :: r => uptoBulk d + uptoBulkAll r
def uptoBulkEntries {H : Type} : List (Lit × DataW H) → Nat
  | [] => 0
  | x :: r => uptoBulkEntry x + uptoBulkEntries r
def uptoBulkEntry {H : Type} : Lit × DataW H → Nat
  | (.string bytes, d) => bytes.length + uptoBulk d + 1
  | (_, d) => uptoBulk d + 1
 end
def uptoSmall : (H : Type) → List (DataW H) → Bool := fun _ ds => decide (uptoBulkAll ds ≤ 1048576)
def OpenSpec.upto (s : _root_.Go.ChangeSpec) : _root_.Go.OpenSpec := { _root_.Go.OpenSpec.ofChange s with cond := some uptoSmall }

/-- 'quittancelaw11.ProrateDues', WHERE WHAT IT READS IS OF BULK AT MOST 1048576: true; the input reads as it did. -/
def prorateDuesUptoRow : OpenClaim := { program := "ytpegaabcelkmmaadoor", sum := "5e700f543fb4ffd0e25ae2b1a4c5bbab7307e41ddeb0990ad864093133eb9114", func := "quittance/quittancelaw11.ProrateDues", spec := "prorateDues", unfollowed := true, recurses := true, named := ["math/bits.divideError", "math/bits.overflowError", "quittance/civil.ahead"], apart := false, laid := [("quittance/civil.ahead", laid_quittance_civil_ahead)], narrowed := true }
def ProrateDuesUptoSaid : Prop := prorateDuesUptoRow.holds Tryd.pinned (OpenSpec.upto prorateDuesSpec)

/-- 'quittancelaw11.ProrateChanges', WHERE WHAT IT READS IS OF BULK AT MOST 1048576: true; the input reads as it did. -/
def prorateChangesUptoRow : OpenClaim := { program := "ytpegaabcelkmmaadoor", sum := "5e700f543fb4ffd0e25ae2b1a4c5bbab7307e41ddeb0990ad864093133eb9114", func := "quittance/quittancelaw11.ProrateChanges", spec := "prorateChanges", unfollowed := true, recurses := true, named := ["math/bits.divideError", "math/bits.overflowError", "quittance/civil.ahead"], apart := false, laid := [("quittance/civil.ahead", laid_quittance_civil_ahead)], narrowed := true }
def ProrateChangesUptoSaid : Prop := prorateChangesUptoRow.holds Tryd.pinned (OpenSpec.upto prorateChangesSpec)

/-- 'quittancelaw11.ProrateMonths', WHERE WHAT IT READS IS OF BULK AT MOST 1048576: true; the input reads as it did. -/
def prorateMonthsUptoRow : OpenClaim := { program := "ytpegaabcelkmmaadoor", sum := "5e700f543fb4ffd0e25ae2b1a4c5bbab7307e41ddeb0990ad864093133eb9114", func := "quittance/quittancelaw11.ProrateMonths", spec := "prorateMonths", unfollowed := true, recurses := true, named := ["math/bits.divideError", "math/bits.overflowError", "quittance/civil.ahead"], apart := false, laid := [("quittance/civil.ahead", laid_quittance_civil_ahead)], narrowed := true }
def ProrateMonthsUptoSaid : Prop := prorateMonthsUptoRow.holds Tryd.pinned (OpenSpec.upto prorateMonthsSpec)

/-- 'quittancelaw11.ProrateWhole', WHERE WHAT IT READS IS OF BULK AT MOST 1048576: true; the input reads as it did. -/
def prorateWholeUptoRow : OpenClaim := { program := "ytpegaabcelkmmaadoor", sum := "5e700f543fb4ffd0e25ae2b1a4c5bbab7307e41ddeb0990ad864093133eb9114", func := "quittance/quittancelaw11.ProrateWhole", spec := "prorateWhole", unfollowed := true, recurses := true, named := ["math/bits.divideError", "math/bits.overflowError", "quittance/civil.ahead"], apart := false, laid := [("quittance/civil.ahead", laid_quittance_civil_ahead)], narrowed := true }
def ProrateWholeUptoSaid : Prop := prorateWholeUptoRow.holds Tryd.pinned (OpenSpec.upto prorateWholeSpec)

/-- 'quittancelaw11.ProrateSides', WHERE WHAT IT READS IS OF BULK AT MOST 1048576: true; the input reads as it did. -/
def prorateSidesUptoRow : OpenClaim := { program := "ytpegaabcelkmmaadoor", sum := "5e700f543fb4ffd0e25ae2b1a4c5bbab7307e41ddeb0990ad864093133eb9114", func := "quittance/quittancelaw11.ProrateSides", spec := "prorateSides", unfollowed := true, recurses := true, named := ["math/bits.divideError", "math/bits.overflowError", "quittance/civil.ahead"], apart := false, laid := [("quittance/civil.ahead", laid_quittance_civil_ahead)], narrowed := true }
def ProrateSidesUptoSaid : Prop := prorateSidesUptoRow.holds Tryd.pinned (OpenSpec.upto prorateSidesSpec)

/-- 'quittancelaw11.ProrateTerm', WHERE WHAT IT READS IS OF BULK AT MOST 1048576: true; the input reads as it did. -/
def prorateTermUptoRow : OpenClaim := { program := "ytpegaabcelkmmaadoor", sum := "5e700f543fb4ffd0e25ae2b1a4c5bbab7307e41ddeb0990ad864093133eb9114", func := "quittance/quittancelaw11.ProrateTerm", spec := "prorateTerm", unfollowed := true, recurses := true, named := ["quittance/civil.ahead", "math/bits.divideError", "math/bits.overflowError"], apart := false, laid := [("quittance/civil.ahead", laid_quittance_civil_ahead)], narrowed := true }
def ProrateTermUptoSaid : Prop := prorateTermUptoRow.holds Tryd.pinned (OpenSpec.upto prorateTermSpec)

end Rows
end Go.Proofs.YtpegaabcelkmmaaDoor
