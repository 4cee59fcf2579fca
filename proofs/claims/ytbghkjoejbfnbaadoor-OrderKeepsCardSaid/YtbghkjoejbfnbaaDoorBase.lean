/- Rows of cells in memory, and small facts about worlds. No conditions. -/
import Derived.Test.YtbghkjoejbfnbaaDoorProg
import Derived.WalkKit
import Derived.OwnWalk
import Derived.IntWalk
import Derived.Lib.Hide
import Derived.LoopTactic
import Derived.Outline
import Derived.Deep.LoopGhost
import Derived.Deep.QuietTactic
import Derived.BigQuiet
import Derived.Below
import Derived.RowKit3
import Derived.Deep.RegionHeld
import Derived.WalkSmall
import Derived.Laws.MakeOwn
namespace Go.Proofs.YtbghkjoejbfnbaaDoor.base
open Go.RowKit

theorem ret_int {k : IntKind} {a b : Int} (h : a = b) : Ending.returned (.int k a) = .returned (.int k b) := by rw [h]
theorem ret_bool {a b : Bool} (h : a = b) : Ending.returned (.bool a) = .returned (.bool b) := by rw [h]
theorem ret_two {k l : IntKind} {a b c d : Int} (h : a = b) (g : c = d) : Ending.returned (.tuple #[.int k a, .int l c]) = .returned (.tuple #[.int k b, .int l d]) := by rw [h, g]
theorem ret_ib {k : IntKind} {a b : Int} {c d : Bool} (h : a = b) (g : c = d) : Ending.returned (.tuple #[.int k a, .bool c]) = .returned (.tuple #[.int k b, .bool d]) := by rw [h, g]
theorem ret_iib {k l : IntKind} {a b e f : Int} {c d : Bool} (h : a = b) (i : e = f) (g : c = d) : Ending.returned (.tuple #[.int k a, .int l e, .bool c]) = .returned (.tuple #[.int k b, .int l f, .bool d]) := by rw [h, i, g]
theorem ret_three {k l m : IntKind} {a b c d e f : Int} (h : a = b) (g : c = d) (i : e = f) : Ending.returned (.tuple #[.int k a, .int l c, .int m e]) = .returned (.tuple #[.int k b, .int l d, .int m f]) := by rw [h, g, i]

theorem lt_of_cell {w : World} {a : Addr} {v : Value} (h : w.cell? a = some v) : a.block < w.heap.size := by
  rcases Nat.lt_or_ge a.block w.heap.size with h' | h'
  · exact h'
  · simp [World.cell?, Array.getElem?_eq_none h'] at h

/-- Block b holds n cells, and they may be written. -/
def Row (w : World) (b n : Nat) (F : Nat → Value) : Prop := ∀ j, j < n → w.cell? ⟨b, j, none⟩ = some (F j) ∧ w.frozen? ⟨b, j, none⟩ = false
theorem Row.lt {w : World} {b n : Nat} {F : Nat → Value} (h : Row w b n F) (hn : 0 < n) : b < w.heap.size := lt_of_cell (h 0 hn).1
theorem Row.drewN {w : World} {b n : Nat} {F : Nat → Value} (h : Row w b n F) (m : Nat) : Row (w.drewN m) b n F := h
theorem Row.below {w w' : World} {b n B : Nat} {F : Nat → Value} (h : Row w b n F) (hb : Below B w w') (hB : b < B) : Row w' b n F := fun j hj =>
  ⟨(hb.cell (p := ⟨b, j, none⟩) hB).trans (h j hj).1, (hb.frozen (p := ⟨b, j, none⟩) hB).trans (h j hj).2⟩
theorem Row.after {w w' : World} {b n : Nat} {F : Nat → Value} (h : Row w b n F) (hn : 0 < n) (hb : Below w.heap.size w w') : Row w' b n F := h.below hb (h.lt hn)
theorem Row.set {w : World} {b n i : Nat} {F : Nat → Value} (h : Row w b n F) (v : Value) (hi : i < n) : Row (w.setCell ⟨b, i, none⟩ v) b n (fun j => if j = i then v else F j) := fun j hj => by
  refine ⟨?_, by rw [World.frozen?_setCell]; exact (h j hj).2⟩
  by_cases e : j = i
  · subst e
    rw [World.cell?_setCell_same (h := (h j hi).1)]; simp
  · rw [World.cell?_setCell_other _ _ _ _ (by intro q; apply e; injection q with _ q2 _; exact q2.symm)]
    simp only [if_neg e]
    exact (h j hj).1
theorem Row.congr {w : World} {b n : Nat} {F G : Nat → Value} (h : Row w b n F) (e : ∀ j, j < n → F j = G j) : Row w b n G := fun j hj => by rw [← e j hj]; exact h j hj
theorem Row.made (w : World) (z : Value) (n : Nat) (t : TypeId) : Row (w.alloc (.cells (madeCells #[z] n) t)) w.heap.size n (fun _ => z) := fun j hj => by
  refine ⟨?_, ?_⟩
  · rw [World.cell?_alloc_at (hn := rfl)]; simp [madeCells, hj, Nat.mod_one]
  · exact World.frozen?_alloc_new _ _ _ _
theorem bcell {W w1 : World} (hb : Below W.heap.size W w1) : (∀ b o, b < W.heap.size → w1.cell? ⟨b, o, none⟩ = W.cell? ⟨b, o, none⟩) ∧ (∀ b o, b < W.heap.size → w1.frozen? ⟨b, o, none⟩ = W.frozen? ⟨b, o, none⟩) :=
  ⟨fun b o h => hb.cell (p := ⟨b, o, none⟩) h, fun b o h => hb.frozen (p := ⟨b, o, none⟩) h⟩
end Go.Proofs.YtbghkjoejbfnbaaDoor.base
