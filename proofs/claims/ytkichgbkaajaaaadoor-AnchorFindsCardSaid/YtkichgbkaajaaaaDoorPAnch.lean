/- What package anchor's functions answer, in the printed form. The table of the days ahead of months holds its numbers. -/
import Derived.Test.YtkichgbkaajaaaaDoorPBase
import Derived.Test.YtkichgbkaajaaaaDoorAnchE
namespace Go.Proofs.YtkichgbkaajaaaaDoor.PH
open Go.RowKit Go.Proofs.YtkichgbkaajaaaaDoorW.PrintWords

def anchor_At.f (a0 a1 : Int) : Option (Int × Int) := some (An.atV a0 a1, An.atE a0 a1)
theorem anchor_At.calls (a0 a1 : Int) (r1 r2 : Int) (w : World) (HTab : Aside0 (Tab w)) (h : anchor_At.f a0 a1 = some (r1, r2)) :
    Calls Tryd.prog 8 #[.int .i64 a0, .int .i64 a1] w fun e w' => e = .returned (.tuple #[.int .i64 r1, .int .i64 r2]) ∧ Below w.heap.size w w' := by
  simp only [anchor_At.f, Option.some.injEq, Prod.mk.injEq] at h
  obtain ⟨rfl, rfl⟩ := h
  exact anch.at_any a0 a1 w HTab.out
def anchor_Check.f (a0_0 a0_1 a0_2 : Int) : Option Int := some (An.ckE a0_0 a0_1 a0_2)
theorem anchor_Check.calls (a0_0 a0_1 a0_2 : Int) (r : Int) (w : World) (h : anchor_Check.f a0_0 a0_1 a0_2 = some r) :
    Calls Tryd.prog 10 #[.agg #[.int .i64 a0_0, .int .i64 a0_1, .int .i64 a0_2]] w fun e w' => e = .returned (.int .i64 r) ∧ Below w.heap.size w w' := by
  simp only [anchor_Check.f, Option.some.injEq] at h
  obtain rfl := h
  exact anch.check_any a0_0 a0_1 a0_2 w
noncomputable def anchor_Bound.f (a0_0 a0_1 a0_2 a1 : Int) : Option (Int × Int) := some (An.bV a0_0 a0_1 a0_2 a1, An.bE a0_0 a0_1 a0_2 a1)
theorem anchor_Bound.calls (a0_0 a0_1 a0_2 a1 : Int) (r1 r2 : Int) (w : World) (HTab : Aside0 (Tab w)) (h : anchor_Bound.f a0_0 a0_1 a0_2 a1 = some (r1, r2)) :
    Calls Tryd.prog 13 #[.agg #[.int .i64 a0_0, .int .i64 a0_1, .int .i64 a0_2], .int .i64 a1] w fun e w' => e = .returned (.tuple #[.int .i64 r1, .int .i64 r2]) ∧ Below w.heap.size w w' := by
  simp only [anchor_Bound.f, Option.some.injEq, Prod.mk.injEq] at h
  obtain ⟨rfl, rfl⟩ := h
  exact anch.bound_any a0_0 a0_1 a0_2 a1 w HTab.out
noncomputable def anchor_Find.f (a0_0 a0_1 a0_2 a1 : Int) : Option (Int × Int × Int × Int) :=
  some (An.fV a0_0 a0_1 a0_2 a1 (An.fk a0_0 a0_1 a0_2 a1), An.fV a0_0 a0_1 a0_2 a1 (An.B a0_0 a0_1 a0_2 (An.fk a0_0 a0_1 a0_2 a1)), An.fV a0_0 a0_1 a0_2 a1 (An.B a0_0 a0_1 a0_2 (An.fk a0_0 a0_1 a0_2 a1 + 1)), An.fE a0_0 a0_1 a0_2 a1)
theorem anchor_Find.calls (a0_0 a0_1 a0_2 a1 : Int) (r1 r2 r3 r4 : Int) (w : World) (HTab : Aside0 (Tab w)) (h : anchor_Find.f a0_0 a0_1 a0_2 a1 = some (r1, r2, r3, r4)) :
    Calls Tryd.prog 15 #[.agg #[.int .i64 a0_0, .int .i64 a0_1, .int .i64 a0_2], .int .i64 a1] w fun e w' => e = .returned (.tuple #[.int .i64 r1, .int .i64 r2, .int .i64 r3, .int .i64 r4]) ∧ Below w.heap.size w w' := by
  simp only [anchor_Find.f, Option.some.injEq, Prod.mk.injEq] at h
  obtain ⟨rfl, rfl, rfl, rfl⟩ := h
  exact anch.find_any a0_0 a0_1 a0_2 a1 w HTab.out
end Go.Proofs.YtkichgbkaajaaaaDoor.PH
