/- The calls whose answers the document fixes (head) of chapter 09, in the printed form. The table of the days ahead of months holds its numbers. -/
import Derived.Test.YtkichgbkaajaaaaDoorPBase
import Derived.Test.YtkichgbkaajaaaaDoorLaw09
namespace Go.Proofs.YtkichgbkaajaaaaDoor.PH
open Go.RowKit Go.Proofs.YtkichgbkaajaaaaDoorW.PrintWords

def quittancelaw09_head.f : Option Bool := some true
theorem quittancelaw09_head.calls (r : Bool) (w : World) (HTab : Aside0 (Tab w)) (h : quittancelaw09_head.f = some r) :
    Calls Tryd.prog 12 #[] w fun e w' => e = .returned (.bool r) ∧ Below w.heap.size w w' := by
  simp only [quittancelaw09_head.f, Option.some.injEq] at h
  obtain rfl := h
  exact law09.head_any w HTab.out
end Go.Proofs.YtkichgbkaajaaaaDoor.PH
