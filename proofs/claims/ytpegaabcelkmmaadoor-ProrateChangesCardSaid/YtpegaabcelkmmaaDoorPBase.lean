/- Small facts for contracts in the printed form. The table of the days ahead of months holds its numbers. No conditions else. -/
import Derived.Test.YtpegaabcelkmmaaDoorCivilA
import Derived.Test.YtpegaabcelkmmaaDoorWWords
import Derived.Test.YtpegaabcelkmmaaDoorWMore
namespace Go.Proofs.YtpegaabcelkmmaaDoor.PH
open Go.RowKit Go.Proofs.YtpegaabcelkmmaaDoorW.PrintWords

/-- The table of the days ahead of months holds its numbers. -/
def Tab (w : World) : Prop := civ.Tab w
theorem tab_lt {w : World} (h : civ.Tab w) : 2 < w.heap.size := World.block_lt_of_cell? w ⟨2, 0, none⟩ (h 0 (by omega))
theorem tab_below {n : Nat} {w w' : World} (h : civ.Tab w) (hb : Below n w w') (hn : 2 < n) : civ.Tab w' := fun i hi =>
  (hb.cell (p := ⟨2, i, none⟩) hn).trans (h i hi)
theorem Tab.b {w w' : World} (h : Aside0 (Tab w)) (hb : Below w.heap.size w w') : Aside0 (Tab w') := ⟨tab_below h.out hb (tab_lt h.out)⟩
theorem Tab.d {w w' : World} (h : Aside0 (Tab w)) (hd : Drawn0 w w') : Aside0 (Tab w') := Tab.b h hd.below
theorem quiet_of {P : Program} {f : FuncId} {args : Array Value} {w : World} {v : Value} (h : Calls P f args w fun e w' => e = .returned v ∧ w = w') : Calls P f args w fun e w' => e = .returned v ∧ Drawn0 w w' :=
  h.mono fun _ _ ⟨a, b⟩ => ⟨a, b ▸ Drawn0.refl _⟩
end Go.Proofs.YtpegaabcelkmmaaDoor.PH
