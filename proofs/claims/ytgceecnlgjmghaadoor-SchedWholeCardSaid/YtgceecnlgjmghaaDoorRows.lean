/-
  NARROWER THAN 'FOR EVERY INPUT', by the rows' own cells (each row's printed sentence says how): SchedTells: laid · SchedMakes: laid · SchedWhole: laid · SchedFalls: laid · SchedEnds: laid.
  DERIVED. THE GIVEN ROWS OF THIS SEAT. 5 by the template 'for every input the law returns true; each argument reads behind the call as it read before'; 0 by the template 'total and deterministic' (their statements: YtgceecnlgjmghaaDoorTotals.lean).
  GIVEN WITH THE SEED: the statements are not yours to turn. If you find one false, say at which input.
  Laid BY PROGRAM, IN A SANDBOX (cutbox-rows.mjs): the forced cells as the released guide's own fill.sh prints them over the translation 5181b65640ef0c36… (all of the seat's roots in one cut). By AI agents, Wed Nov 11 2026. No macro, syntax, notation, axiom, sorry.
-/
import Derived.Test.YtgceecnlgjmghaaDoorChecked
import GoSem.Claim
import GoSem.ClaimJoined
import GoSem.ClaimMapViews
import Derived.JoinedTies
import Derived.KernelRfl
namespace Go.Proofs.YtgceecnlgjmghaaDoor
/- THE CELL 'sum', in the pinned program and in every row, IS THE sha256 OF THE DUMP (.gsa) THAT YtgceecnlgjmghaaDoorProg.lean LOADS. Nothing in Lean hashes anything: it is a label: what it is worth is what the hold of that sum in a sandbox is worth. -/
noncomputable def Tryd.pinned : Pinned := { name := "ytgceecnlgjmghaadoor", sum := "5181b65640ef0c36398a03dc747aa20fed5895ff15fe33361ee4310eebf5c7c4", checked := Tryd.checked }
namespace Rows
def none {H : Type} : Left H := { results := [], args := [] }

/- WHAT THE LISTED PACKAGE-LEVEL VARIABLES READ AS WHEN THE CALL BEGINS. Each datum BY PROGRAM (the guide's laid-datum.mjs) off the statement by which the dump's own 'gosem.cut.vars' lays the variable. In a bare row this is a premise. The card (YtgceecnlgjmghaaDoorCards.lean) ties it to the program's text. -/
def laid_quittance_civil_ahead {H : Type} : DataW H := .agg [.lit (.int .i64 0), .lit (.int .i64 31), .lit (.int .i64 59), .lit (.int .i64 90), .lit (.int .i64 120), .lit (.int .i64 151), .lit (.int .i64 181), .lit (.int .i64 212), .lit (.int .i64 243), .lit (.int .i64 273), .lit (.int .i64 304), .lit (.int .i64 334), .lit (.int .i64 365)]

/-- 'quittancelaw28.SchedTells': WHATEVER THE INPUT: true; the input reads as it did. -/
def schedTellsSpec : ChangeSpec := { name := "schedTells", fn := fun _ => fun
  | [d1, d2] => { results := [.lit (.bool true)], args := [d1, d2] }
  | _ => none }
def schedTellsRow : OpenClaim := { program := "ytgceecnlgjmghaadoor", sum := "5181b65640ef0c36398a03dc747aa20fed5895ff15fe33361ee4310eebf5c7c4", func := "quittance/quittancelaw28.SchedTells", spec := "schedTells", inPlace := ["math/bits.Add64"], unfollowed := true, recurses := true, named := ["quittance/civil.ahead", "math/bits.divideError", "math/bits.overflowError"], apart := false, laid := [("quittance/civil.ahead", laid_quittance_civil_ahead)] }
def SchedTellsSaid : Prop := schedTellsRow.holds Tryd.pinned (OpenSpec.ofChange schedTellsSpec)

/-- ITS FALSE NEIGHBOUR: 'it returns false'. Refute it at one input. -/
def schedTellsWrong : ChangeSpec := { name := "schedTells", fn := fun _ => fun
  | [d1, d2] => { results := [.lit (.bool false)], args := [d1, d2] }
  | _ => none }
def SchedTellsWrongFalsely : Prop := schedTellsRow.holds Tryd.pinned (OpenSpec.ofChange schedTellsWrong)

/-- 'quittancelaw28.SchedMakes': WHATEVER THE INPUT: true; the input reads as it did. -/
def schedMakesSpec : ChangeSpec := { name := "schedMakes", fn := fun _ => fun
  | [d1, d2, d3] => { results := [.lit (.bool true)], args := [d1, d2, d3] }
  | _ => none }
def schedMakesRow : OpenClaim := { program := "ytgceecnlgjmghaadoor", sum := "5181b65640ef0c36398a03dc747aa20fed5895ff15fe33361ee4310eebf5c7c4", func := "quittance/quittancelaw28.SchedMakes", spec := "schedMakes", inPlace := ["math/bits.Add64"], unfollowed := true, recurses := true, named := ["quittance/civil.ahead", "math/bits.divideError", "math/bits.overflowError"], apart := false, laid := [("quittance/civil.ahead", laid_quittance_civil_ahead)] }
def SchedMakesSaid : Prop := schedMakesRow.holds Tryd.pinned (OpenSpec.ofChange schedMakesSpec)

/-- ITS FALSE NEIGHBOUR: 'it returns false'. Refute it at one input. -/
def schedMakesWrong : ChangeSpec := { name := "schedMakes", fn := fun _ => fun
  | [d1, d2, d3] => { results := [.lit (.bool false)], args := [d1, d2, d3] }
  | _ => none }
def SchedMakesWrongFalsely : Prop := schedMakesRow.holds Tryd.pinned (OpenSpec.ofChange schedMakesWrong)

/-- 'quittancelaw28.SchedWhole': WHATEVER THE INPUT: true; the input reads as it did. -/
def schedWholeSpec : ChangeSpec := { name := "schedWhole", fn := fun _ => fun
  | [d1, d2] => { results := [.lit (.bool true)], args := [d1, d2] }
  | _ => none }
def schedWholeRow : OpenClaim := { program := "ytgceecnlgjmghaadoor", sum := "5181b65640ef0c36398a03dc747aa20fed5895ff15fe33361ee4310eebf5c7c4", func := "quittance/quittancelaw28.SchedWhole", spec := "schedWhole", inPlace := ["math/bits.Add64"], unfollowed := true, recurses := true, named := ["quittance/civil.ahead", "math/bits.divideError", "math/bits.overflowError"], apart := false, laid := [("quittance/civil.ahead", laid_quittance_civil_ahead)] }
def SchedWholeSaid : Prop := schedWholeRow.holds Tryd.pinned (OpenSpec.ofChange schedWholeSpec)

/-- ITS FALSE NEIGHBOUR: 'it returns false'. Refute it at one input. -/
def schedWholeWrong : ChangeSpec := { name := "schedWhole", fn := fun _ => fun
  | [d1, d2] => { results := [.lit (.bool false)], args := [d1, d2] }
  | _ => none }
def SchedWholeWrongFalsely : Prop := schedWholeRow.holds Tryd.pinned (OpenSpec.ofChange schedWholeWrong)

/-- 'quittancelaw28.SchedFalls': WHATEVER THE INPUT: true; the input reads as it did. -/
def schedFallsSpec : ChangeSpec := { name := "schedFalls", fn := fun _ => fun
  | [d] => { results := [.lit (.bool true)], args := [d] }
  | _ => none }
def schedFallsRow : OpenClaim := { program := "ytgceecnlgjmghaadoor", sum := "5181b65640ef0c36398a03dc747aa20fed5895ff15fe33361ee4310eebf5c7c4", func := "quittance/quittancelaw28.SchedFalls", spec := "schedFalls", inPlace := ["math/bits.Add64"], unfollowed := true, recurses := true, named := ["quittance/civil.ahead", "math/bits.divideError", "math/bits.overflowError"], apart := false, laid := [("quittance/civil.ahead", laid_quittance_civil_ahead)] }
def SchedFallsSaid : Prop := schedFallsRow.holds Tryd.pinned (OpenSpec.ofChange schedFallsSpec)

/-- ITS FALSE NEIGHBOUR: 'it returns false'. Refute it at one input. -/
def schedFallsWrong : ChangeSpec := { name := "schedFalls", fn := fun _ => fun
  | [d] => { results := [.lit (.bool false)], args := [d] }
  | _ => none }
def SchedFallsWrongFalsely : Prop := schedFallsRow.holds Tryd.pinned (OpenSpec.ofChange schedFallsWrong)

/-- 'quittancelaw28.SchedEnds': WHATEVER THE INPUT: true; the input reads as it did. -/
def schedEndsSpec : ChangeSpec := { name := "schedEnds", fn := fun _ => fun
  | [d1, d2, d3] => { results := [.lit (.bool true)], args := [d1, d2, d3] }
  | _ => none }
def schedEndsRow : OpenClaim := { program := "ytgceecnlgjmghaadoor", sum := "5181b65640ef0c36398a03dc747aa20fed5895ff15fe33361ee4310eebf5c7c4", func := "quittance/quittancelaw28.SchedEnds", spec := "schedEnds", inPlace := ["math/bits.Add64"], unfollowed := true, recurses := true, named := ["quittance/civil.ahead", "math/bits.divideError", "math/bits.overflowError"], apart := false, laid := [("quittance/civil.ahead", laid_quittance_civil_ahead)] }
def SchedEndsSaid : Prop := schedEndsRow.holds Tryd.pinned (OpenSpec.ofChange schedEndsSpec)

/-- ITS FALSE NEIGHBOUR: 'it returns false'. Refute it at one input. -/
def schedEndsWrong : ChangeSpec := { name := "schedEnds", fn := fun _ => fun
  | [d1, d2, d3] => { results := [.lit (.bool false)], args := [d1, d2, d3] }
  | _ => none }
def SchedEndsWrongFalsely : Prop := schedEndsRow.holds Tryd.pinned (OpenSpec.ofChange schedEndsWrong)

/- THE SECOND FORM. 'bulk': how many values and letters a reading holds, each counted each time it is reached (what is shared counts as often as it is met; a slice's spare places count too). A statement '..UptoSaid' is the law's where the arguments, and the package variables that the reading takes, are together of bulk at most 1048576: NARROWER than '..Said'. Prove '..Said' where nothing that the law and all that it calls make is longer than what came in: it says more and counts as full. Else prove '..UptoSaid'. A law counts once. -/
mutual
def uptoBulk {H : Type} : DataW H → Nat
  | .lit (.string bytes) => bytes.length + 1
  | .lit _ => 1
  | .nil => 1
  | .ptr d => uptoBulk d + 1
  | .slice elems spare => uptoBulkAll elems + uptoBulkAll spare + 1
  | .agg parts => uptoBulkAll parts + 1
  | .iface _ d => uptoBulk d + 1
  | .map entries => uptoBulkEntries entries + 1
  | .held _ => 1
def uptoBulkAll {H : Type} : List (DataW H) → Nat
  | [] => 0
  | d :: r => uptoBulk d + uptoBulkAll r
def uptoBulkEntries {H : Type} : List (Lit × DataW H) → Nat
  | [] => 0
  | x :: r => uptoBulkEntry x + uptoBulkEntries r
def uptoBulkEntry {H : Type} : Lit × DataW H → Nat
  | (.string bytes, d) => bytes.length + uptoBulk d + 1
  | (_, d) => uptoBulk d + 1
 end
def uptoSmall : (H : Type) → List (DataW H) → Bool := fun _ ds => decide (uptoBulkAll ds ≤ 1048576)
def OpenSpec.upto (s : _root_.Go.ChangeSpec) : _root_.Go.OpenSpec := { _root_.Go.OpenSpec.ofChange s with cond := some uptoSmall }

/-- 'quittancelaw28.SchedTells', WHERE WHAT IT READS IS OF BULK AT MOST 1048576: true; the input reads as it did. -/
def schedTellsUptoRow : OpenClaim := { program := "ytgceecnlgjmghaadoor", sum := "5181b65640ef0c36398a03dc747aa20fed5895ff15fe33361ee4310eebf5c7c4", func := "quittance/quittancelaw28.SchedTells", spec := "schedTells", inPlace := ["math/bits.Add64"], unfollowed := true, recurses := true, named := ["quittance/civil.ahead", "math/bits.divideError", "math/bits.overflowError"], apart := false, laid := [("quittance/civil.ahead", laid_quittance_civil_ahead)], narrowed := true }
def SchedTellsUptoSaid : Prop := schedTellsUptoRow.holds Tryd.pinned (OpenSpec.upto schedTellsSpec)

/-- 'quittancelaw28.SchedMakes', WHERE WHAT IT READS IS OF BULK AT MOST 1048576: true; the input reads as it did. -/
def schedMakesUptoRow : OpenClaim := { program := "ytgceecnlgjmghaadoor", sum := "5181b65640ef0c36398a03dc747aa20fed5895ff15fe33361ee4310eebf5c7c4", func := "quittance/quittancelaw28.SchedMakes", spec := "schedMakes", inPlace := ["math/bits.Add64"], unfollowed := true, recurses := true, named := ["quittance/civil.ahead", "math/bits.divideError", "math/bits.overflowError"], apart := false, laid := [("quittance/civil.ahead", laid_quittance_civil_ahead)], narrowed := true }
def SchedMakesUptoSaid : Prop := schedMakesUptoRow.holds Tryd.pinned (OpenSpec.upto schedMakesSpec)

/-- 'quittancelaw28.SchedWhole', WHERE WHAT IT READS IS OF BULK AT MOST 1048576: true; the input reads as it did. -/
def schedWholeUptoRow : OpenClaim := { program := "ytgceecnlgjmghaadoor", sum := "5181b65640ef0c36398a03dc747aa20fed5895ff15fe33361ee4310eebf5c7c4", func := "quittance/quittancelaw28.SchedWhole", spec := "schedWhole", inPlace := ["math/bits.Add64"], unfollowed := true, recurses := true, named := ["quittance/civil.ahead", "math/bits.divideError", "math/bits.overflowError"], apart := false, laid := [("quittance/civil.ahead", laid_quittance_civil_ahead)], narrowed := true }
def SchedWholeUptoSaid : Prop := schedWholeUptoRow.holds Tryd.pinned (OpenSpec.upto schedWholeSpec)

/-- 'quittancelaw28.SchedFalls', WHERE WHAT IT READS IS OF BULK AT MOST 1048576: true; the input reads as it did. -/
def schedFallsUptoRow : OpenClaim := { program := "ytgceecnlgjmghaadoor", sum := "5181b65640ef0c36398a03dc747aa20fed5895ff15fe33361ee4310eebf5c7c4", func := "quittance/quittancelaw28.SchedFalls", spec := "schedFalls", inPlace := ["math/bits.Add64"], unfollowed := true, recurses := true, named := ["quittance/civil.ahead", "math/bits.divideError", "math/bits.overflowError"], apart := false, laid := [("quittance/civil.ahead", laid_quittance_civil_ahead)], narrowed := true }
def SchedFallsUptoSaid : Prop := schedFallsUptoRow.holds Tryd.pinned (OpenSpec.upto schedFallsSpec)

/-- 'quittancelaw28.SchedEnds', WHERE WHAT IT READS IS OF BULK AT MOST 1048576: true; the input reads as it did. -/
def schedEndsUptoRow : OpenClaim := { program := "ytgceecnlgjmghaadoor", sum := "5181b65640ef0c36398a03dc747aa20fed5895ff15fe33361ee4310eebf5c7c4", func := "quittance/quittancelaw28.SchedEnds", spec := "schedEnds", inPlace := ["math/bits.Add64"], unfollowed := true, recurses := true, named := ["quittance/civil.ahead", "math/bits.divideError", "math/bits.overflowError"], apart := false, laid := [("quittance/civil.ahead", laid_quittance_civil_ahead)], narrowed := true }
def SchedEndsUptoSaid : Prop := schedEndsUptoRow.holds Tryd.pinned (OpenSpec.upto schedEndsSpec)

end Rows
end Go.Proofs.YtgceecnlgjmghaaDoor
