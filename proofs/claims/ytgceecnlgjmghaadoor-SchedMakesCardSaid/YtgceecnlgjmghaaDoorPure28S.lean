/- Chapter 28, as numbers: two lists of slices that are the same. No conditions. -/
import Derived.Test.YtgceecnlgjmghaaDoorMSc2
import Derived.Test.YtgceecnlgjmghaaDoorPHx9
namespace Go.Proofs.YtgceecnlgjmghaaDoor.pu28
open Go.RowKit Go.Proofs.YtgceecnlgjmghaaDoorW.PrintWords Go.Proofs.YtgceecnlgjmghaaDoor.sch Go.Proofs.YtgceecnlgjmghaaDoor.PH
theorem w28 {x : Int} (h1 : -9223372036854775808 ≤ x) (h2 : x ≤ 9223372036854775807) : wrap64 x = x := by unfold wrap64; omega
theorem nx (i : Nat) (h : i < 9000000000000000000) : wrap64 ((i : Int) + 1) = ((i + 1 : Nat) : Int) := by rw [w28] <;> omega
theorem same_l0 (l : List Sl) (hn : l.length ≤ 8000) : ∀ (d i k : Nat), i + d = l.length → d < k → quittanceref28_SameSlices.l0 k l l i = some true := by
 intro d
 induction d with
 | zero =>
  intro i k hi hk
  obtain ⟨k, rfl⟩ : ∃ m, k = m + 1 := ⟨k - 1, by omega⟩
  rw [quittanceref28_SameSlices.l0, if_neg (by omega)]
 | succ d ih =>
  intro i k hi hk
  obtain ⟨k, rfl⟩ : ∃ m, k = m + 1 := ⟨k - 1, by omega⟩
  rw [quittanceref28_SameSlices.l0, if_pos (by omega), if_pos (by omega), if_pos (by omega), if_neg (by simp), nx i (by omega)]
  exact ih (i + 1) k (by omega) (by omega)
theorem slices_is (l : List Sl) (hn : l.length ≤ 8000) (k : Nat) (hk : 8001 ≤ k) : quittanceref28_SameSlices.f k l l = some true := by
 unfold quittanceref28_SameSlices.f
 rw [if_pos rfl]
 exact same_l0 l hn l.length 0 k (by omega) (by omega)
end Go.Proofs.YtgceecnlgjmghaaDoor.pu28
