/-
  NARROWER THAN 'FOR EVERY INPUT', by the rows' own cells (each row's printed sentence says how): CivilDays: laid · CivilDates: laid · CivilMonths: laid · CivilBack: laid · CivilOrder: laid · CivilGaps: laid.
  DERIVED. THE GIVEN ROWS OF THIS SEAT. 6 by the template 'for every input the law returns true; each argument reads behind the call as it read before'; 0 by the template 'total and deterministic' (their statements: YthaclgnoajnceaaDoorTotals.lean).
  GIVEN WITH THE SEED: the statements are not yours to turn. If you find one false, say at which input.
  Laid BY PROGRAM, IN A SANDBOX (cutbox-rows.mjs): the forced cells as the released guide's own fill.sh prints them over the translation 7335570dc64b4596… (all of the seat's roots in one cut). By AI agents, Wed Nov 11 2026. No macro, syntax, notation, axiom, sorry.
-/
import Derived.Test.YthaclgnoajnceaaDoorChecked
import GoSem.Claim
import GoSem.ClaimJoined
import GoSem.ClaimMapViews
import Derived.JoinedTies
import Derived.KernelRfl
namespace Go.Proofs.YthaclgnoajnceaaDoor
/- THE CELL 'sum', in the pinned program and in every row, IS THE sha256 OF THE DUMP (.gsa) THAT YthaclgnoajnceaaDoorProg.lean LOADS. Nothing in Lean hashes anything: it is a label: what it is worth is what the hold of that sum in a sandbox is worth. -/
noncomputable def Tryd.pinned : Pinned := { name := "ythaclgnoajnceaadoor", sum := "7335570dc64b459670b39e2190eebbf37435e99d030423e6e9383f4a076408b5", checked := Tryd.checked }
namespace Rows
def none {H : Type} : Left H := { results := [], args := [] }

/- WHAT THE LISTED PACKAGE-LEVEL VARIABLES READ AS WHEN THE CALL BEGINS. Each datum BY PROGRAM (the guide's laid-datum.mjs) off the statement by which the dump's own 'gosem.cut.vars' lays the variable. In a bare row this is a premise. The card (YthaclgnoajnceaaDoorCards.lean) ties it to the program's text. -/
def laid_quittance_civil_ahead {H : Type} : DataW H := .agg [.lit (.int .i64 0), .lit (.int .i64 31), .lit (.int .i64 59), .lit (.int .i64 90), .lit (.int .i64 120), .lit (.int .i64 151), .lit (.int .i64 181), .lit (.int .i64 212), .lit (.int .i64 243), .lit (.int .i64 273), .lit (.int .i64 304), .lit (.int .i64 334), .lit (.int .i64 365)]

/-- 'quittancelaw08.CivilDays': WHATEVER THE INPUT: true; the input reads as it did. -/
def civilDaysSpec : ChangeSpec := { name := "civilDays", fn := fun _ => fun
  | [d1, d2, d3] => { results := [.lit (.bool true)], args := [d1, d2, d3] }
  | _ => none }
def civilDaysRow : OpenClaim := { program := "ythaclgnoajnceaadoor", sum := "7335570dc64b459670b39e2190eebbf37435e99d030423e6e9383f4a076408b5", func := "quittance/quittancelaw08.CivilDays", spec := "civilDays", named := ["quittance/civil.ahead"], apart := false, laid := [("quittance/civil.ahead", laid_quittance_civil_ahead)] }
def CivilDaysSaid : Prop := civilDaysRow.holds Tryd.pinned (OpenSpec.ofChange civilDaysSpec)

/-- ITS FALSE NEIGHBOUR: 'it returns false'. Refute it at one input. -/
def civilDaysWrong : ChangeSpec := { name := "civilDays", fn := fun _ => fun
  | [d1, d2, d3] => { results := [.lit (.bool false)], args := [d1, d2, d3] }
  | _ => none }
def CivilDaysWrongFalsely : Prop := civilDaysRow.holds Tryd.pinned (OpenSpec.ofChange civilDaysWrong)

/-- 'quittancelaw08.CivilDates': WHATEVER THE INPUT: true; the input reads as it did. -/
def civilDatesSpec : ChangeSpec := { name := "civilDates", fn := fun _ => fun
  | [d] => { results := [.lit (.bool true)], args := [d] }
  | _ => none }
def civilDatesRow : OpenClaim := { program := "ythaclgnoajnceaadoor", sum := "7335570dc64b459670b39e2190eebbf37435e99d030423e6e9383f4a076408b5", func := "quittance/quittancelaw08.CivilDates", spec := "civilDates", named := ["quittance/civil.ahead"], apart := false, laid := [("quittance/civil.ahead", laid_quittance_civil_ahead)] }
def CivilDatesSaid : Prop := civilDatesRow.holds Tryd.pinned (OpenSpec.ofChange civilDatesSpec)

/-- ITS FALSE NEIGHBOUR: 'it returns false'. Refute it at one input. -/
def civilDatesWrong : ChangeSpec := { name := "civilDates", fn := fun _ => fun
  | [d] => { results := [.lit (.bool false)], args := [d] }
  | _ => none }
def CivilDatesWrongFalsely : Prop := civilDatesRow.holds Tryd.pinned (OpenSpec.ofChange civilDatesWrong)

/-- 'quittancelaw08.CivilMonths': WHATEVER THE INPUT: true; the input reads as it did. -/
def civilMonthsSpec : ChangeSpec := { name := "civilMonths", fn := fun _ => fun
  | [d1, d2, d3] => { results := [.lit (.bool true)], args := [d1, d2, d3] }
  | _ => none }
def civilMonthsRow : OpenClaim := { program := "ythaclgnoajnceaadoor", sum := "7335570dc64b459670b39e2190eebbf37435e99d030423e6e9383f4a076408b5", func := "quittance/quittancelaw08.CivilMonths", spec := "civilMonths", named := ["quittance/civil.ahead"], apart := false, laid := [("quittance/civil.ahead", laid_quittance_civil_ahead)] }
def CivilMonthsSaid : Prop := civilMonthsRow.holds Tryd.pinned (OpenSpec.ofChange civilMonthsSpec)

/-- ITS FALSE NEIGHBOUR: 'it returns false'. Refute it at one input. -/
def civilMonthsWrong : ChangeSpec := { name := "civilMonths", fn := fun _ => fun
  | [d1, d2, d3] => { results := [.lit (.bool false)], args := [d1, d2, d3] }
  | _ => none }
def CivilMonthsWrongFalsely : Prop := civilMonthsRow.holds Tryd.pinned (OpenSpec.ofChange civilMonthsWrong)

/-- 'quittancelaw08.CivilBack': WHATEVER THE INPUT: true; the input reads as it did. -/
def civilBackSpec : ChangeSpec := { name := "civilBack", fn := fun _ => fun
  | [d] => { results := [.lit (.bool true)], args := [d] }
  | _ => none }
def civilBackRow : OpenClaim := { program := "ythaclgnoajnceaadoor", sum := "7335570dc64b459670b39e2190eebbf37435e99d030423e6e9383f4a076408b5", func := "quittance/quittancelaw08.CivilBack", spec := "civilBack", named := ["quittance/civil.ahead"], apart := false, laid := [("quittance/civil.ahead", laid_quittance_civil_ahead)] }
def CivilBackSaid : Prop := civilBackRow.holds Tryd.pinned (OpenSpec.ofChange civilBackSpec)

/-- ITS FALSE NEIGHBOUR: 'it returns false'. Refute it at one input. -/
def civilBackWrong : ChangeSpec := { name := "civilBack", fn := fun _ => fun
  | [d] => { results := [.lit (.bool false)], args := [d] }
  | _ => none }
def CivilBackWrongFalsely : Prop := civilBackRow.holds Tryd.pinned (OpenSpec.ofChange civilBackWrong)

/-- 'quittancelaw08.CivilOrder': WHATEVER THE INPUT: true; the input reads as it did. -/
def civilOrderSpec : ChangeSpec := { name := "civilOrder", fn := fun _ => fun
  | [d1, d2] => { results := [.lit (.bool true)], args := [d1, d2] }
  | _ => none }
def civilOrderRow : OpenClaim := { program := "ythaclgnoajnceaadoor", sum := "7335570dc64b459670b39e2190eebbf37435e99d030423e6e9383f4a076408b5", func := "quittance/quittancelaw08.CivilOrder", spec := "civilOrder", named := ["quittance/civil.ahead"], apart := false, laid := [("quittance/civil.ahead", laid_quittance_civil_ahead)] }
def CivilOrderSaid : Prop := civilOrderRow.holds Tryd.pinned (OpenSpec.ofChange civilOrderSpec)

/-- ITS FALSE NEIGHBOUR: 'it returns false'. Refute it at one input. -/
def civilOrderWrong : ChangeSpec := { name := "civilOrder", fn := fun _ => fun
  | [d1, d2] => { results := [.lit (.bool false)], args := [d1, d2] }
  | _ => none }
def CivilOrderWrongFalsely : Prop := civilOrderRow.holds Tryd.pinned (OpenSpec.ofChange civilOrderWrong)

/-- 'quittancelaw08.CivilGaps': WHATEVER THE INPUT: true; the input reads as it did. -/
def civilGapsSpec : ChangeSpec := { name := "civilGaps", fn := fun _ => fun
  | [d1, d2] => { results := [.lit (.bool true)], args := [d1, d2] }
  | _ => none }
def civilGapsRow : OpenClaim := { program := "ythaclgnoajnceaadoor", sum := "7335570dc64b459670b39e2190eebbf37435e99d030423e6e9383f4a076408b5", func := "quittance/quittancelaw08.CivilGaps", spec := "civilGaps", named := ["quittance/civil.ahead"], apart := false, laid := [("quittance/civil.ahead", laid_quittance_civil_ahead)] }
def CivilGapsSaid : Prop := civilGapsRow.holds Tryd.pinned (OpenSpec.ofChange civilGapsSpec)

/-- ITS FALSE NEIGHBOUR: 'it returns false'. Refute it at one input. -/
def civilGapsWrong : ChangeSpec := { name := "civilGaps", fn := fun _ => fun
  | [d1, d2] => { results := [.lit (.bool false)], args := [d1, d2] }
  | _ => none }
def CivilGapsWrongFalsely : Prop := civilGapsRow.holds Tryd.pinned (OpenSpec.ofChange civilGapsWrong)

/- THE SECOND FORM. 'bulk': how many values and letters a reading holds, each counted each time it is reached (what is shared counts as often as it is met; a slice's spare places count too). A statement '..UptoSaid' is the law's where the arguments, and the package variables that the reading takes, are together of bulk at most 1048576: NARROWER than '..Said'. Prove '..Said' where nothing that the law and all that it calls make is longer than what came in: it says more and counts as full. Else prove '..UptoSaid'. A law counts once. -/
mutual
def uptoBulk {H : Type} : DataW H → Nat
  | .lit (.string bytes) => bytes.length + 1
  | .lit _ => 1
  | .nil => 1
  | .ptr d => uptoBulk d + 1
  | .slice elems spare => uptoBulkAll elems + uptoBulkAll spare + 1
  | .agg parts => uptoBulkAll parts + 1
  | .iface _ d => uptoBulk d + 1
  | .map entries => uptoBulkEntries entries + 1
  | .held _ => 1
def uptoBulkAll {H : Type} : List (DataW H) → Nat
  | [] => 0
  | d :: r => uptoBulk d + uptoBulkAll r
def uptoBulkEntries {H : Type} : List (Lit × DataW H) → Nat
  | [] => 0
  | x :: r => uptoBulkEntry x + uptoBulkEntries r
def uptoBulkEntry {H : Type} : Lit × DataW H → Nat
  | (.string bytes, d) => bytes.length + uptoBulk d + 1
  | (_, d) => uptoBulk d + 1
 end
def uptoSmall : (H : Type) → List (DataW H) → Bool := fun _ ds => decide (uptoBulkAll ds ≤ 1048576)
def OpenSpec.upto (s : _root_.Go.ChangeSpec) : _root_.Go.OpenSpec := { _root_.Go.OpenSpec.ofChange s with cond := some uptoSmall }

/-- 'quittancelaw08.CivilDays', WHERE WHAT IT READS IS OF BULK AT MOST 1048576: true; the input reads as it did. -/
def civilDaysUptoRow : OpenClaim := { program := "ythaclgnoajnceaadoor", sum := "7335570dc64b459670b39e2190eebbf37435e99d030423e6e9383f4a076408b5", func := "quittance/quittancelaw08.CivilDays", spec := "civilDays", named := ["quittance/civil.ahead"], apart := false, laid := [("quittance/civil.ahead", laid_quittance_civil_ahead)], narrowed := true }
def CivilDaysUptoSaid : Prop := civilDaysUptoRow.holds Tryd.pinned (OpenSpec.upto civilDaysSpec)

/-- 'quittancelaw08.CivilDates', WHERE WHAT IT READS IS OF BULK AT MOST 1048576: true; the input reads as it did. -/
def civilDatesUptoRow : OpenClaim := { program := "ythaclgnoajnceaadoor", sum := "7335570dc64b459670b39e2190eebbf37435e99d030423e6e9383f4a076408b5", func := "quittance/quittancelaw08.CivilDates", spec := "civilDates", named := ["quittance/civil.ahead"], apart := false, laid := [("quittance/civil.ahead", laid_quittance_civil_ahead)], narrowed := true }
def CivilDatesUptoSaid : Prop := civilDatesUptoRow.holds Tryd.pinned (OpenSpec.upto civilDatesSpec)

/-- 'quittancelaw08.CivilMonths', WHERE WHAT IT READS IS OF BULK AT MOST 1048576: true; the input reads as it did. -/
def civilMonthsUptoRow : OpenClaim := { program := "ythaclgnoajnceaadoor", sum := "7335570dc64b459670b39e2190eebbf37435e99d030423e6e9383f4a076408b5", func := "quittance/quittancelaw08.CivilMonths", spec := "civilMonths", named := ["quittance/civil.ahead"], apart := false, laid := [("quittance/civil.ahead", laid_quittance_civil_ahead)], narrowed := true }
def CivilMonthsUptoSaid : Prop := civilMonthsUptoRow.holds Tryd.pinned (OpenSpec.upto civilMonthsSpec)

/-- 'quittancelaw08.CivilBack', WHERE WHAT IT READS IS OF BULK AT MOST 1048576: true; the input reads as it did. -/
def civilBackUptoRow : OpenClaim := { program := "ythaclgnoajnceaadoor", sum := "7335570dc64b459670b39e2190eebbf37435e99d030423e6e9383f4a076408b5", func := "quittance/quittancelaw08.CivilBack", spec := "civilBack", named := ["quittance/civil.ahead"], apart := false, laid := [("quittance/civil.ahead", laid_quittance_civil_ahead)], narrowed := true }
def CivilBackUptoSaid : Prop := civilBackUptoRow.holds Tryd.pinned (OpenSpec.upto civilBackSpec)

/-- 'quittancelaw08.CivilOrder', WHERE WHAT IT READS IS OF BULK AT MOST 1048576: true; the input reads as it did. -/
def civilOrderUptoRow : OpenClaim := { program := "ythaclgnoajnceaadoor", sum := "7335570dc64b459670b39e2190eebbf37435e99d030423e6e9383f4a076408b5", func := "quittance/quittancelaw08.CivilOrder", spec := "civilOrder", named := ["quittance/civil.ahead"], apart := false, laid := [("quittance/civil.ahead", laid_quittance_civil_ahead)], narrowed := true }
def CivilOrderUptoSaid : Prop := civilOrderUptoRow.holds Tryd.pinned (OpenSpec.upto civilOrderSpec)

/-- 'quittancelaw08.CivilGaps', WHERE WHAT IT READS IS OF BULK AT MOST 1048576: true; the input reads as it did. -/
def civilGapsUptoRow : OpenClaim := { program := "ythaclgnoajnceaadoor", sum := "7335570dc64b459670b39e2190eebbf37435e99d030423e6e9383f4a076408b5", func := "quittance/quittancelaw08.CivilGaps", spec := "civilGaps", named := ["quittance/civil.ahead"], apart := false, laid := [("quittance/civil.ahead", laid_quittance_civil_ahead)], narrowed := true }
def CivilGapsUptoSaid : Prop := civilGapsUptoRow.holds Tryd.pinned (OpenSpec.upto civilGapsSpec)

end Rows
end Go.Proofs.YthaclgnoajnceaaDoor
