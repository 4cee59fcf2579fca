/- Words of the print of this seat, as far as its texts speak of them (by wip/gen/prune.py). No conditions. -/
import Derived.Test.YtgceecnlgjmghaaDoorWN
/-! ### 52. A row that stays read whatever happens to a block (a set of blocks) doesn't lie there -/
namespace Go.Proofs.YtgceecnlgjmghaaDoorW.PrintWords
open Go.RowKit
namespace Kd
section
variable {α : Type} {d : Kd α} {W : World} {g n : Nat} {S ok : Nat → Prop} {A : Option Addr} {ad : Addr} {xs : List α}
end
end Kd
end Go.Proofs.YtgceecnlgjmghaaDoorW.PrintWords
