/- The store of a whole period, and of a bool. -/
import Derived.Test.YtibkbimhedoafaaDoorMSubA
import Derived.Test.YtibkbimhedoafaaDoorMP
import Derived.Test.YtibkbimhedoafaaDoorLift
namespace Go.Proofs.YtibkbimhedoafaaDoor.psub
open Go.RowKit Go.Proofs.YtibkbimhedoafaaDoor.base Go.Shelf Go.Proofs.YtibkbimhedoafaaDoor.rl Sb
open Go.Proofs.YtibkbimhedoafaaDoorW.PrintWords (blk_grown blk_alloc blk_new blk_cell blk_frozen blk_far blk_set blk_drew)
theorem skip_store {P : Program} {w w1 : World} {ρ : Operand → Value} {o : Oper} {t : TypeId} {x v : Operand} (ho : o.op = .store t x v) (h : (Instr.storeAt t (ρ x) (ρ v)).run P w = .ok () w1) : (execOp ρ o).run P w = .ok .skip w1 := by
  unfold execOp
  simp only [ho]
  rw [Sem.run_bind, h]
  rfl
/-- The world behind the store of a period. -/
def put6 (W : World) (b : Nat) (v0 v1 v2 v3 v4 v5 : Int) : World :=
  (((((W.setCell ⟨b, 0, none⟩ (.int .i64 v0)).setCell ⟨b, 1, none⟩ (.int .i64 v1)).setCell ⟨b, 2, none⟩ (.int .i64 v2)).setCell ⟨b, 3, none⟩ (.int .i64 v3)).setCell ⟨b, 4, none⟩ (.int .i64 v4)).setCell ⟨b, 5, none⟩ (.int .i64 v5)
theorem store6 (W : World) (b : Nat) (v0 v1 v2 v3 v4 v5 : Int) (z0 z1 z2 z3 z4 z5 : Value) (h : W.heap[b]? = some (.cells #[z0, z1, z2, z3, z4, z5] 68 (0, 0))) :
    (Instr.storeAt 68 (.pointer (some ⟨b, 0, none⟩)) (.agg #[.int .i64 v0, .int .i64 v1, .int .i64 v2, .int .i64 v3, .int .i64 v4, .int .i64 v5])).run Tryd.prog W = .ok () (put6 W b v0 v1 v2 v3 v4 v5) := by
  have r0 := blk_cell h 0
  have r1 := blk_cell h 1
  have r2 := blk_cell h 2
  have r3 := blk_cell h 3
  have r4 := blk_cell h 4
  have r5 := blk_cell h 5
  have q0 := blk_frozen h 0
  have q1 := blk_frozen h 1
  have q2 := blk_frozen h 2
  have q3 := blk_frozen h 3
  have q4 := blk_frozen h 4
  have q5 := blk_frozen h 5
  simp at r0 r1 r2 r3 r4 r5
  clear h
  unfold put6
  go_simp
theorem put6_heap (W : World) (b g : Nat) (v0 v1 v2 v3 v4 v5 : Int) (h : g ≠ b) : (put6 W b v0 v1 v2 v3 v4 v5).heap[g]? = W.heap[g]? := by
  have e := fun (V : World) (j : Nat) (u : Value) => Below.heap_setCell V ⟨b, j, none⟩ u g h
  simp only [put6, e]
theorem put6_self (W : World) (b : Nat) (v0 v1 v2 v3 v4 v5 : Int) (z0 z1 z2 z3 z4 z5 : Value) (t : TypeId) (h : W.heap[b]? = some (.cells #[z0, z1, z2, z3, z4, z5] t (0, 0))) :
    (put6 W b v0 v1 v2 v3 v4 v5).heap[b]? = some (.cells #[.int .i64 v0, .int .i64 v1, .int .i64 v2, .int .i64 v3, .int .i64 v4, .int .i64 v5] t (0, 0)) := by
  have := blk_set (blk_set (blk_set (blk_set (blk_set (blk_set h 0 (.int .i64 v0)) 1 (.int .i64 v1)) 2 (.int .i64 v2)) 3 (.int .i64 v3)) 4 (.int .i64 v4)) 5 (.int .i64 v5)
  simpa [put6] using this
theorem put6_below {m : Nat} {w W : World} (h : Below m w W) (b : Nat) (v0 v1 v2 v3 v4 v5 : Int) (hb : m ≤ b) : Below m w (put6 W b v0 v1 v2 v3 v4 v5) :=
  (((((h.setCell hb _).setCell hb _).setCell hb _).setCell hb _).setCell hb _).setCell hb _
theorem put6_keeps {B : Nat} {W : World} (b : Nat) (v0 v1 v2 v3 v4 v5 : Int) (hb : b < B) : KeepsFrom B W (put6 W.drew b v0 v1 v2 v3 v4 v5) :=
  ⟨Nat.le_of_eq (by simp only [put6, World.setCell, Array.size_modify]; rfl), fun k o hk ho _ => (put6_heap W.drew b k v0 v1 v2 v3 v4 v5 (by omega)).trans ho⟩
theorem keeps_set {B : Nat} {W V : World} (h : KeepsFrom B W V) {c : Nat} (v : Value) (hc : c < B) : KeepsFrom B W (V.setCell ⟨c, 0, none⟩ v) :=
  ⟨by simpa [World.setCell] using h.size, fun k o hk ho hn => (Below.heap_setCell V ⟨c, 0, none⟩ v k (by simp only []; omega)).trans (h.same k o hk ho hn)⟩
theorem store1 (W : World) (b : Nat) (v : Bool) (z : Value) (h : W.heap[b]? = some (.cells #[z] 4 (0, 0))) :
    (Instr.storeAt 4 (.pointer (some ⟨b, 0, none⟩)) (.bool v)).run Tryd.prog W = .ok () (W.setCell ⟨b, 0, none⟩ (.bool v)) := by
  have r0 := blk_cell h 0
  have q0 := blk_frozen h 0
  simp at r0
  clear h
  go_simp
end Go.Proofs.YtibkbimhedoafaaDoor.psub
