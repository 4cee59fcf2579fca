/-
  NARROWER THAN 'FOR EVERY INPUT', by the rows' own cells (each row's printed sentence says how): SubsChange: laid · SubsCancel: laid · SubsWhole: laid · SubsDue: laid · SubsEnds: laid · SubsNet: laid.
  DERIVED. THE GIVEN ROWS OF THIS SEAT. 6 by the template 'for every input the law returns true; each argument reads behind the call as it read before'; 0 by the template 'total and deterministic' (their statements: YtibkbimhedoafaaDoorTotals.lean).
  GIVEN WITH THE SEED: the statements are not yours to turn. If you find one false, say at which input.
  Laid BY PROGRAM, IN A SANDBOX (cutbox-rows.mjs): the forced cells as the released guide's own fill.sh prints them over the translation a31d58d1d7ba2cd1… (all of the seat's roots in one cut). By AI agents, Wed Nov 11 2026. No macro, syntax, notation, axiom, sorry.
-/
import Derived.Test.YtibkbimhedoafaaDoorChecked
import GoSem.Claim
import GoSem.ClaimJoined
import GoSem.ClaimMapViews
import Derived.JoinedTies
import Derived.KernelRfl
namespace Go.Proofs.YtibkbimhedoafaaDoor
/- THE CELL 'sum', in the pinned program and in every row, IS THE sha256 OF THE DUMP (.gsa) THAT YtibkbimhedoafaaDoorProg.lean LOADS. Nothing in Lean hashes anything: it is a label: what it is worth is what the hold of that sum in a sandbox is worth. -/
noncomputable def Tryd.pinned : Pinned := { name := "ytibkbimhedoafaadoor", sum := "a31d58d1d7ba2cd1e12ce586e0121a2b9f6a53bec11f9de00e3b2a37c1e15891", checked := Tryd.checked }
namespace Rows
def none {H : Type} : Left H := { results := [], args := [] }

/- WHAT THE LISTED PACKAGE-LEVEL VARIABLES READ AS WHEN THE CALL BEGINS. Each datum BY PROGRAM (the guide's laid-datum.mjs) off the statement by which the dump's own 'gosem.cut.vars' lays the variable. In a bare row this is a premise. The card (YtibkbimhedoafaaDoorCards.lean) ties it to the program's text. -/
def laid_quittance_civil_ahead {H : Type} : DataW H := .agg [.lit (.int .i64 0), .lit (.int .i64 31), .lit (.int .i64 59), .lit (.int .i64 90), .lit (.int .i64 120), .lit (.int .i64 151), .lit (.int .i64 181), .lit (.int .i64 212), .lit (.int .i64 243), .lit (.int .i64 273), .lit (.int .i64 304), .lit (.int .i64 334), .lit (.int .i64 365)]

/-- 'quittancelaw23.SubsChange': WHATEVER THE INPUT: true; the input reads as it did. -/
def subsChangeSpec : ChangeSpec := { name := "subsChange", fn := fun _ => fun
  | [d1, d2, d3] => { results := [.lit (.bool true)], args := [d1, d2, d3] }
  | _ => none }
def subsChangeRow : OpenClaim := { program := "ytibkbimhedoafaadoor", sum := "a31d58d1d7ba2cd1e12ce586e0121a2b9f6a53bec11f9de00e3b2a37c1e15891", func := "quittance/quittancelaw23.SubsChange", spec := "subsChange", unfollowed := true, recurses := true, named := ["quittance/civil.ahead", "math/bits.divideError", "math/bits.overflowError"], apart := false, laid := [("quittance/civil.ahead", laid_quittance_civil_ahead)] }
def SubsChangeSaid : Prop := subsChangeRow.holds Tryd.pinned (OpenSpec.ofChange subsChangeSpec)

/-- ITS FALSE NEIGHBOUR: 'it returns false'. Refute it at one input. -/
def subsChangeWrong : ChangeSpec := { name := "subsChange", fn := fun _ => fun
  | [d1, d2, d3] => { results := [.lit (.bool false)], args := [d1, d2, d3] }
  | _ => none }
def SubsChangeWrongFalsely : Prop := subsChangeRow.holds Tryd.pinned (OpenSpec.ofChange subsChangeWrong)

/-- 'quittancelaw23.SubsCancel': WHATEVER THE INPUT: true; the input reads as it did. -/
def subsCancelSpec : ChangeSpec := { name := "subsCancel", fn := fun _ => fun
  | [d1, d2, d3] => { results := [.lit (.bool true)], args := [d1, d2, d3] }
  | _ => none }
def subsCancelRow : OpenClaim := { program := "ytibkbimhedoafaadoor", sum := "a31d58d1d7ba2cd1e12ce586e0121a2b9f6a53bec11f9de00e3b2a37c1e15891", func := "quittance/quittancelaw23.SubsCancel", spec := "subsCancel", unfollowed := true, recurses := true, named := ["quittance/civil.ahead", "math/bits.divideError", "math/bits.overflowError"], apart := false, laid := [("quittance/civil.ahead", laid_quittance_civil_ahead)] }
def SubsCancelSaid : Prop := subsCancelRow.holds Tryd.pinned (OpenSpec.ofChange subsCancelSpec)

/-- ITS FALSE NEIGHBOUR: 'it returns false'. Refute it at one input. -/
def subsCancelWrong : ChangeSpec := { name := "subsCancel", fn := fun _ => fun
  | [d1, d2, d3] => { results := [.lit (.bool false)], args := [d1, d2, d3] }
  | _ => none }
def SubsCancelWrongFalsely : Prop := subsCancelRow.holds Tryd.pinned (OpenSpec.ofChange subsCancelWrong)

/-- 'quittancelaw23.SubsWhole': WHATEVER THE INPUT: true; the input reads as it did. -/
def subsWholeSpec : ChangeSpec := { name := "subsWhole", fn := fun _ => fun
  | [d1, d2, d3] => { results := [.lit (.bool true)], args := [d1, d2, d3] }
  | _ => none }
def subsWholeRow : OpenClaim := { program := "ytibkbimhedoafaadoor", sum := "a31d58d1d7ba2cd1e12ce586e0121a2b9f6a53bec11f9de00e3b2a37c1e15891", func := "quittance/quittancelaw23.SubsWhole", spec := "subsWhole", unfollowed := true, recurses := true, named := ["quittance/civil.ahead", "math/bits.divideError", "math/bits.overflowError"], apart := false, laid := [("quittance/civil.ahead", laid_quittance_civil_ahead)] }
def SubsWholeSaid : Prop := subsWholeRow.holds Tryd.pinned (OpenSpec.ofChange subsWholeSpec)

/-- ITS FALSE NEIGHBOUR: 'it returns false'. Refute it at one input. -/
def subsWholeWrong : ChangeSpec := { name := "subsWhole", fn := fun _ => fun
  | [d1, d2, d3] => { results := [.lit (.bool false)], args := [d1, d2, d3] }
  | _ => none }
def SubsWholeWrongFalsely : Prop := subsWholeRow.holds Tryd.pinned (OpenSpec.ofChange subsWholeWrong)

/-- 'quittancelaw23.SubsDue': WHATEVER THE INPUT: true; the input reads as it did. -/
def subsDueSpec : ChangeSpec := { name := "subsDue", fn := fun _ => fun
  | [d1, d2, d3] => { results := [.lit (.bool true)], args := [d1, d2, d3] }
  | _ => none }
def subsDueRow : OpenClaim := { program := "ytibkbimhedoafaadoor", sum := "a31d58d1d7ba2cd1e12ce586e0121a2b9f6a53bec11f9de00e3b2a37c1e15891", func := "quittance/quittancelaw23.SubsDue", spec := "subsDue", unfollowed := true, recurses := true, named := ["quittance/civil.ahead", "math/bits.divideError", "math/bits.overflowError"], apart := false, laid := [("quittance/civil.ahead", laid_quittance_civil_ahead)] }
def SubsDueSaid : Prop := subsDueRow.holds Tryd.pinned (OpenSpec.ofChange subsDueSpec)

/-- ITS FALSE NEIGHBOUR: 'it returns false'. Refute it at one input. -/
def subsDueWrong : ChangeSpec := { name := "subsDue", fn := fun _ => fun
  | [d1, d2, d3] => { results := [.lit (.bool false)], args := [d1, d2, d3] }
  | _ => none }
def SubsDueWrongFalsely : Prop := subsDueRow.holds Tryd.pinned (OpenSpec.ofChange subsDueWrong)

/-- 'quittancelaw23.SubsEnds': WHATEVER THE INPUT: true; the input reads as it did. -/
def subsEndsSpec : ChangeSpec := { name := "subsEnds", fn := fun _ => fun
  | [d1, d2, d3] => { results := [.lit (.bool true)], args := [d1, d2, d3] }
  | _ => none }
def subsEndsRow : OpenClaim := { program := "ytibkbimhedoafaadoor", sum := "a31d58d1d7ba2cd1e12ce586e0121a2b9f6a53bec11f9de00e3b2a37c1e15891", func := "quittance/quittancelaw23.SubsEnds", spec := "subsEnds", unfollowed := true, recurses := true, named := ["quittance/civil.ahead", "math/bits.divideError", "math/bits.overflowError"], apart := false, laid := [("quittance/civil.ahead", laid_quittance_civil_ahead)] }
def SubsEndsSaid : Prop := subsEndsRow.holds Tryd.pinned (OpenSpec.ofChange subsEndsSpec)

/-- ITS FALSE NEIGHBOUR: 'it returns false'. Refute it at one input. -/
def subsEndsWrong : ChangeSpec := { name := "subsEnds", fn := fun _ => fun
  | [d1, d2, d3] => { results := [.lit (.bool false)], args := [d1, d2, d3] }
  | _ => none }
def SubsEndsWrongFalsely : Prop := subsEndsRow.holds Tryd.pinned (OpenSpec.ofChange subsEndsWrong)

/-- 'quittancelaw23.SubsNet': WHATEVER THE INPUT: true; the input reads as it did. -/
def subsNetSpec : ChangeSpec := { name := "subsNet", fn := fun _ => fun
  | [d1, d2, d3] => { results := [.lit (.bool true)], args := [d1, d2, d3] }
  | _ => none }
def subsNetRow : OpenClaim := { program := "ytibkbimhedoafaadoor", sum := "a31d58d1d7ba2cd1e12ce586e0121a2b9f6a53bec11f9de00e3b2a37c1e15891", func := "quittance/quittancelaw23.SubsNet", spec := "subsNet", inPlace := ["math/bits.Add64"], unfollowed := true, recurses := true, named := ["quittance/civil.ahead", "math/bits.divideError", "math/bits.overflowError"], apart := false, laid := [("quittance/civil.ahead", laid_quittance_civil_ahead)] }
def SubsNetSaid : Prop := subsNetRow.holds Tryd.pinned (OpenSpec.ofChange subsNetSpec)

/-- ITS FALSE NEIGHBOUR: 'it returns false'. Refute it at one input. -/
def subsNetWrong : ChangeSpec := { name := "subsNet", fn := fun _ => fun
  | [d1, d2, d3] => { results := [.lit (.bool false)], args := [d1, d2, d3] }
  | _ => none }
def SubsNetWrongFalsely : Prop := subsNetRow.holds Tryd.pinned (OpenSpec.ofChange subsNetWrong)

/- THE SECOND FORM. 'bulk': how many values and letters a reading holds, each counted each time it is reached (what is shared counts as often as it is met; a slice's spare places count too). A statement '..UptoSaid' is the law's where the arguments, and the package variables that the reading takes, are together of bulk at most 1048576: NARROWER than '..Said'. Prove '..Said' where nothing that the law and all that it calls make is longer than what came in: it says more and counts as full. Else prove '..UptoSaid'. A law counts once. -/
mutual
def uptoBulk {H : Type} : DataW H → Nat
  | .lit (.string bytes) => bytes.length + 1
  | .lit _ => 1
  | .nil => 1
  | .ptr d => uptoBulk d + 1
  | .slice elems spare => uptoBulkAll elems + uptoBulkAll spare + 1
  | .agg parts => uptoBulkAll parts + 1
  | .iface _ d => uptoBulk d + 1
  | .map entries => uptoBulkEntries entries + 1
  | .held _ => 1
def uptoBulkAll {H : Type} : List (DataW H) → Nat
  | [] => 0
  | d :: r => uptoBulk d + uptoBulkAll r
def uptoBulkEntries {H : Type} : List (Lit × DataW H) → Nat
  | [] => 0
  | x :: r => uptoBulkEntry x + uptoBulkEntries r
def uptoBulkEntry {H : Type} : Lit × DataW H → Nat
  | (.string bytes, d) => bytes.length + uptoBulk d + 1
  | (_, d) => uptoBulk d + 1
 end
def uptoSmall : (H : Type) → List (DataW H) → Bool := fun _ ds => decide (uptoBulkAll ds ≤ 1048576)
def OpenSpec.upto (s : _root_.Go.ChangeSpec) : _root_.Go.OpenSpec := { _root_.Go.OpenSpec.ofChange s with cond := some uptoSmall }

/-- 'quittancelaw23.SubsChange', WHERE WHAT IT READS IS OF BULK AT MOST 1048576: true; the input reads as it did. -/
def subsChangeUptoRow : OpenClaim := { program := "ytibkbimhedoafaadoor", sum := "a31d58d1d7ba2cd1e12ce586e0121a2b9f6a53bec11f9de00e3b2a37c1e15891", func := "quittance/quittancelaw23.SubsChange", spec := "subsChange", unfollowed := true, recurses := true, named := ["quittance/civil.ahead", "math/bits.divideError", "math/bits.overflowError"], apart := false, laid := [("quittance/civil.ahead", laid_quittance_civil_ahead)], narrowed := true }
def SubsChangeUptoSaid : Prop := subsChangeUptoRow.holds Tryd.pinned (OpenSpec.upto subsChangeSpec)

/-- 'quittancelaw23.SubsCancel', WHERE WHAT IT READS IS OF BULK AT MOST 1048576: true; the input reads as it did. -/
def subsCancelUptoRow : OpenClaim := { program := "ytibkbimhedoafaadoor", sum := "a31d58d1d7ba2cd1e12ce586e0121a2b9f6a53bec11f9de00e3b2a37c1e15891", func := "quittance/quittancelaw23.SubsCancel", spec := "subsCancel", unfollowed := true, recurses := true, named := ["quittance/civil.ahead", "math/bits.divideError", "math/bits.overflowError"], apart := false, laid := [("quittance/civil.ahead", laid_quittance_civil_ahead)], narrowed := true }
def SubsCancelUptoSaid : Prop := subsCancelUptoRow.holds Tryd.pinned (OpenSpec.upto subsCancelSpec)

/-- 'quittancelaw23.SubsWhole', WHERE WHAT IT READS IS OF BULK AT MOST 1048576: true; the input reads as it did. -/
def subsWholeUptoRow : OpenClaim := { program := "ytibkbimhedoafaadoor", sum := "a31d58d1d7ba2cd1e12ce586e0121a2b9f6a53bec11f9de00e3b2a37c1e15891", func := "quittance/quittancelaw23.SubsWhole", spec := "subsWhole", unfollowed := true, recurses := true, named := ["quittance/civil.ahead", "math/bits.divideError", "math/bits.overflowError"], apart := false, laid := [("quittance/civil.ahead", laid_quittance_civil_ahead)], narrowed := true }
def SubsWholeUptoSaid : Prop := subsWholeUptoRow.holds Tryd.pinned (OpenSpec.upto subsWholeSpec)

/-- 'quittancelaw23.SubsDue', WHERE WHAT IT READS IS OF BULK AT MOST 1048576: true; the input reads as it did. -/
def subsDueUptoRow : OpenClaim := { program := "ytibkbimhedoafaadoor", sum := "a31d58d1d7ba2cd1e12ce586e0121a2b9f6a53bec11f9de00e3b2a37c1e15891", func := "quittance/quittancelaw23.SubsDue", spec := "subsDue", unfollowed := true, recurses := true, named := ["quittance/civil.ahead", "math/bits.divideError", "math/bits.overflowError"], apart := false, laid := [("quittance/civil.ahead", laid_quittance_civil_ahead)], narrowed := true }
def SubsDueUptoSaid : Prop := subsDueUptoRow.holds Tryd.pinned (OpenSpec.upto subsDueSpec)

/-- 'quittancelaw23.SubsEnds', WHERE WHAT IT READS IS OF BULK AT MOST 1048576: true; the input reads as it did. -/
def subsEndsUptoRow : OpenClaim := { program := "ytibkbimhedoafaadoor", sum := "a31d58d1d7ba2cd1e12ce586e0121a2b9f6a53bec11f9de00e3b2a37c1e15891", func := "quittance/quittancelaw23.SubsEnds", spec := "subsEnds", unfollowed := true, recurses := true, named := ["quittance/civil.ahead", "math/bits.divideError", "math/bits.overflowError"], apart := false, laid := [("quittance/civil.ahead", laid_quittance_civil_ahead)], narrowed := true }
def SubsEndsUptoSaid : Prop := subsEndsUptoRow.holds Tryd.pinned (OpenSpec.upto subsEndsSpec)

/-- 'quittancelaw23.SubsNet', WHERE WHAT IT READS IS OF BULK AT MOST 1048576: true; the input reads as it did. -/
def subsNetUptoRow : OpenClaim := { program := "ytibkbimhedoafaadoor", sum := "a31d58d1d7ba2cd1e12ce586e0121a2b9f6a53bec11f9de00e3b2a37c1e15891", func := "quittance/quittancelaw23.SubsNet", spec := "subsNet", inPlace := ["math/bits.Add64"], unfollowed := true, recurses := true, named := ["quittance/civil.ahead", "math/bits.divideError", "math/bits.overflowError"], apart := false, laid := [("quittance/civil.ahead", laid_quittance_civil_ahead)], narrowed := true }
def SubsNetUptoSaid : Prop := subsNetUptoRow.holds Tryd.pinned (OpenSpec.upto subsNetSpec)

end Rows
end Go.Proofs.YtibkbimhedoafaaDoor
