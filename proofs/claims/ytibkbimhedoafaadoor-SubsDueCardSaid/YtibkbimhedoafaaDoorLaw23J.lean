/- The statement SubsDue returns true, whatever comes in. The table of the days ahead of months holds its numbers. -/
import Derived.Test.YtibkbimhedoafaaDoorPure23F
import Derived.Test.YtibkbimhedoafaaDoorLaw23I
namespace Go.Proofs.YtibkbimhedoafaaDoor.law23
open Go.RowKit Go.Proofs.YtibkbimhedoafaaDoor.base Go.Shelf Sb
open Go.Proofs.YtibkbimhedoafaaDoor.psub
open Go.Proofs.YtibkbimhedoafaaDoor.civ (Tab)
theorem subsDue (x : Su) (today most : Int) (w : World) (T : Tab w) : Calls Tryd.prog 6 #[.agg (sc x), .int .i64 today, .int .i64 most] w fun e w' => e = .returned (.bool true) ∧ Below w.heap.size w w' := by
  obtain ⟨L, z, er, hL, h1, h2⟩ := PH.due_same x today most
  obtain ⟨a, g, h3, h4⟩ := PH.rstate_f 400000 (by omega) x today
  exact due_law x z today most er a g (ckV x) L w T h1 h2 h3 h4 (PH.check23 0 x) (PH.rcheck23 400000 (by omega) x) (PH.same_f L (by omega))
end Go.Proofs.YtibkbimhedoafaaDoor.law23
