/- What a row gives of the library's variables: the cell of bytealg.MaxLen holds some number; a world for the witness in which the tables of unicode/utf8 lie. No conditions. -/
import Derived.Test.YtbghkjoejbfnbaaDoorPOrdL
import Derived.Shelf.Vars
import Derived.WalkKit
import Derived.ProofKit
import GoSem.PinnedTables
namespace Go.Proofs.YtbghkjoejbfnbaaDoor.tabrow
open Go.RowKit Go.Proofs.YtbghkjoejbfnbaaDoorW.PrintWords
theorem tab {W : World} (h : W.ShapedOpen Tryd.prog) : Aside0 (PH.Tab W) :=
  ⟨cell_of_shapedOpen_int (g := 0) (t := 3) (zero := #[.int .i64 0]) (k := .i64) h (by decide +kernel) (by kernel_rfl) rfl (by kernel_rfl) (by kernel_rfl) Tryd.underlying3⟩
def put (cs : Array Value) : Obj → Obj
  | .cells _ t frozen => .cells cs t frozen
  | o => o
noncomputable def laidWorld (os : Os) : World :=
  { World.holding Tryd.prog os ⟨#[], #[], []⟩ with heap := ((World.holding Tryd.prog os ⟨#[], #[], []⟩).heap.modify 2 (put (([128, 191, 160, 191, 128, 159, 144, 191, 128, 143] ++ List.replicate 22 0).map fun n : Nat => Value.int .u8 (n : Int)).toArray)).modify 1 (put (Pinned.utf8FirstZ.map fun n : Nat => Value.int .u8 (n : Int)).toArray) }
end Go.Proofs.YtbghkjoejbfnbaaDoor.tabrow
