/- Small facts for contracts in the printed form. The table of the days ahead of months holds its numbers. No conditions else. What package civil's functions and quittanceref08's answer, in the printed form. The table of the days ahead of months holds its numbers, where package civil is called. What MulDiv, Add and Sum of package arith, and quittanceref07's, answer, in the printed form. No conditions but that numbers are of 64 bits. What package anchor's functions answer, in the printed form. The table of the days ahead of months holds its numbers. -/
import Derived.Test.YtibkbimhedoafaaDoorMCiv
import Derived.Test.YtibkbimhedoafaaDoorWWords
import Derived.Test.YtibkbimhedoafaaDoorWMore
import Derived.Test.YtibkbimhedoafaaDoorMAr
import Derived.Test.YtibkbimhedoafaaDoorMAnch
namespace Go.Proofs.YtibkbimhedoafaaDoor.PH
open Go.RowKit Go.Proofs.YtibkbimhedoafaaDoorW.PrintWords

/-- The table of the days ahead of months holds its numbers. -/
def Tab (w : World) : Prop := civ.Tab w
theorem tab_lt {w : World} (h : civ.Tab w) : 0 < w.heap.size := World.block_lt_of_cell? w ⟨0, 0, none⟩ (h 0 (by omega))
theorem tab_below {n : Nat} {w w' : World} (h : civ.Tab w) (hb : Below n w w') (hn : 0 < n) : civ.Tab w' := fun i hi =>
  (hb.cell (p := ⟨0, i, none⟩) hn).trans (h i hi)
theorem Tab.b {w w' : World} (h : Aside0 (Tab w)) (hb : Below w.heap.size w w') : Aside0 (Tab w') := ⟨tab_below h.out hb (tab_lt h.out)⟩
theorem Tab.d {w w' : World} (h : Aside0 (Tab w)) (hd : Drawn0 w w') : Aside0 (Tab w') := Tab.b h hd.below
theorem quiet_of {P : Program} {f : FuncId} {args : Array Value} {w : World} {v : Value} (h : Calls P f args w fun e w' => e = .returned v ∧ w = w') : Calls P f args w fun e w' => e = .returned v ∧ Drawn0 w w' :=
  h.mono fun _ _ ⟨a, b⟩ => ⟨a, b ▸ Drawn0.refl _⟩
end Go.Proofs.YtibkbimhedoafaaDoor.PH

namespace Go.Proofs.YtibkbimhedoafaaDoor.PH
open Go.RowKit Go.Proofs.YtibkbimhedoafaaDoorW.PrintWords

noncomputable def civil_Of.f (a0 : Int) : Option (Int × Int) := some (Cv.ofV a0, Cv.dE a0)
theorem civil_Of.calls (a0 : Int) (r1 r2 : Int) (w : World) (HTab : Aside0 (Tab w)) (h : civil_Of.f a0 = some (r1, r2)) :
    Calls Tryd.prog 49 #[.int .i64 a0] w fun e w' => e = .returned (.tuple #[.int .i64 r1, .int .i64 r2]) ∧ Drawn0 w w' := by
  simp only [civil_Of.f, Option.some.injEq, Prod.mk.injEq] at h
  obtain ⟨rfl, rfl⟩ := h
  exact quiet_of (civ.of_any a0 w HTab.out)
def civil_Days.f (a0 : Int) : Option (Int × Int × Int) := some (Cv.fstV a0, Cv.lstV a0, Cv.mE a0)
theorem civil_Days.calls (a0 : Int) (r1 r2 r3 : Int) (w : World) (HTab : Aside0 (Tab w)) (h : civil_Days.f a0 = some (r1, r2, r3)) :
    Calls Tryd.prog 61 #[.int .i64 a0] w fun e w' => e = .returned (.tuple #[.int .i64 r1, .int .i64 r2, .int .i64 r3]) ∧ Drawn0 w w' := by
  simp only [civil_Days.f, Option.some.injEq, Prod.mk.injEq] at h
  obtain ⟨rfl, rfl, rfl⟩ := h
  exact quiet_of (civ.days_any a0 w HTab.out)
noncomputable def quittanceref08_Of.f (a0 : Int) : Option (Int × Int) := some (Cv.ofV a0, Cv.dE a0)
theorem quittanceref08_Of.calls (a0 : Int) (r1 r2 : Int) (w : World) (h : quittanceref08_Of.f a0 = some (r1, r2)) :
    Calls Tryd.prog 38 #[.int .i64 a0] w fun e w' => e = .returned (.tuple #[.int .i64 r1, .int .i64 r2]) ∧ Drawn0 w w' := by
  simp only [quittanceref08_Of.f, Option.some.injEq, Prod.mk.injEq] at h
  obtain ⟨rfl, rfl⟩ := h
  exact quiet_of (ref08.of_any a0 w)
def quittanceref08_Days.f (a0 : Int) : Option (Int × Int × Int) := some (Cv.fstV a0, Cv.lstV a0, Cv.mE a0)
theorem quittanceref08_Days.calls (a0 : Int) (r1 r2 r3 : Int) (w : World) (h : quittanceref08_Days.f a0 = some (r1, r2, r3)) :
    Calls Tryd.prog 51 #[.int .i64 a0] w fun e w' => e = .returned (.tuple #[.int .i64 r1, .int .i64 r2, .int .i64 r3]) ∧ Drawn0 w w' := by
  simp only [quittanceref08_Days.f, Option.some.injEq, Prod.mk.injEq] at h
  obtain ⟨rfl, rfl, rfl⟩ := h
  exact quiet_of (ref08.days_any a0 w)
noncomputable def quittanceref08_Date.f (a0 : Int) : Option (Int × Int × Int × Int) := some (Cv.dtY a0, Cv.dtM a0, Cv.dtD a0, Cv.dE a0)
theorem quittanceref08_Date.calls (a0 : Int) (r1 r2 r3 r4 : Int) (w : World) (h : quittanceref08_Date.f a0 = some (r1, r2, r3, r4)) :
    Calls Tryd.prog 53 #[.int .i64 a0] w fun e w' => e = .returned (.tuple #[.int .i64 r1, .int .i64 r2, .int .i64 r3, .int .i64 r4]) ∧ Drawn0 w w' := by
  simp only [quittanceref08_Date.f, Option.some.injEq, Prod.mk.injEq] at h
  obtain ⟨rfl, rfl, rfl, rfl⟩ := h
  exact quiet_of (ref08.date_any a0 w)
def quittanceref08_Day.f (a0 a1 a2 : Int) : Option (Int × Int) := some (Cv.dayV a0 a1 a2, Cv.dayE a0 a1 a2)
theorem quittanceref08_Day.calls (a0 a1 a2 : Int) (r1 r2 : Int) (w : World) (h : quittanceref08_Day.f a0 a1 a2 = some (r1, r2)) :
    Calls Tryd.prog 44 #[.int .i64 a0, .int .i64 a1, .int .i64 a2] w fun e w' => e = .returned (.tuple #[.int .i64 r1, .int .i64 r2]) ∧ Drawn0 w w' := by
  simp only [quittanceref08_Day.f, Option.some.injEq, Prod.mk.injEq] at h
  obtain ⟨rfl, rfl⟩ := h
  exact quiet_of (ref08.day_any a0 a1 a2 w)
def quittanceref08_Month.f (a0 a1 : Int) : Option (Int × Int) := some (Cv.monV a0 a1, Cv.monE a0 a1)
theorem quittanceref08_Month.calls (a0 a1 : Int) (r1 r2 : Int) (w : World) (h : quittanceref08_Month.f a0 a1 = some (r1, r2)) :
    Calls Tryd.prog 54 #[.int .i64 a0, .int .i64 a1] w fun e w' => e = .returned (.tuple #[.int .i64 r1, .int .i64 r2]) ∧ Drawn0 w w' := by
  simp only [quittanceref08_Month.f, Option.some.injEq, Prod.mk.injEq] at h
  obtain ⟨rfl, rfl⟩ := h
  exact quiet_of (ref08.month_any a0 a1 w)
def quittanceref08_Long.f (a0 a1 : Int) : Option Int := some (Cv.lng a0 a1)
theorem quittanceref08_Long.calls (a0 a1 : Int) (r : Int) (w : World) (h : quittanceref08_Long.f a0 a1 = some r) :
    Calls Tryd.prog 52 #[.int .i64 a0, .int .i64 a1] w fun e w' => e = .returned (.int .i64 r) ∧ Drawn0 w w' := by
  simp only [quittanceref08_Long.f, Option.some.injEq] at h
  obtain rfl := h
  exact quiet_of (ref08.long_any a0 a1 w)
def quittanceref08_Leap.f (a0 : Int) : Option Bool := some (Cv.lp a0)
theorem quittanceref08_Leap.calls (a0 : Int) (r : Bool) (w : World) (h : quittanceref08_Leap.f a0 = some r) :
    Calls Tryd.prog 62 #[.int .i64 a0] w fun e w' => e = .returned (.bool r) ∧ Drawn0 w w' := by
  simp only [quittanceref08_Leap.f, Option.some.injEq] at h
  obtain rfl := h
  exact quiet_of (ref08.leap_any a0 w)
end Go.Proofs.YtibkbimhedoafaaDoor.PH

namespace Go.Proofs.YtibkbimhedoafaaDoor.PH
open Go.RowKit Go.Proofs.YtibkbimhedoafaaDoorW.PrintWords

def arith_MulDiv.f (a0 a1 a2 : Int) : Option (Int × Int × Bool) := if Ar.fits a0 = true ∧ Ar.fits a1 = true ∧ Ar.fits a2 = true then some (Ar.mdQ a0 a1 a2, Ar.mdR a0 a1 a2, Ar.mdI a0 a1 a2) else none
theorem arith_MulDiv.calls (a0 a1 a2 : Int) (r1 r2 : Int) (r3 : Bool) (w : World) (h : arith_MulDiv.f a0 a1 a2 = some (r1, r2, r3)) :
    Calls Tryd.prog 66 #[.int .i64 a0, .int .i64 a1, .int .i64 a2] w fun e w' => e = .returned (.tuple #[.int .i64 r1, .int .i64 r2, .bool r3]) ∧ Below w.heap.size w w' := by
  unfold arith_MulDiv.f at h
  split at h
  · rename_i hf
    simp only [Option.some.injEq, Prod.mk.injEq] at h
    obtain ⟨rfl, rfl, rfl⟩ := h
    exact arith.mulDiv_any a0 a1 a2 w hf.1 hf.2.1 hf.2.2
  · cases h
def quittanceref07_MulDiv.f (a0 a1 a2 : Int) : Option (Int × Int × Bool) := if Ar.fits a0 = true ∧ Ar.fits a1 = true ∧ Ar.fits a2 = true then some (Ar.mdQ a0 a1 a2, Ar.mdR a0 a1 a2, Ar.mdI a0 a1 a2) else none
theorem quittanceref07_MulDiv.calls (a0 a1 a2 : Int) (r1 r2 : Int) (r3 : Bool) (w : World) (h : quittanceref07_MulDiv.f a0 a1 a2 = some (r1, r2, r3)) :
    Calls Tryd.prog 65 #[.int .i64 a0, .int .i64 a1, .int .i64 a2] w fun e w' => e = .returned (.tuple #[.int .i64 r1, .int .i64 r2, .bool r3]) ∧ Below w.heap.size w w' := by
  unfold quittanceref07_MulDiv.f at h
  split at h
  · rename_i hf
    simp only [Option.some.injEq, Prod.mk.injEq] at h
    obtain ⟨rfl, rfl, rfl⟩ := h
    exact ref07.mulDiv_any a0 a1 a2 w hf.1 hf.2.1 hf.2.2
  · cases h
end Go.Proofs.YtibkbimhedoafaaDoor.PH

namespace Go.Proofs.YtibkbimhedoafaaDoor.PH
open Go.RowKit Go.Proofs.YtibkbimhedoafaaDoorW.PrintWords

def anchor_At.f (a0 a1 : Int) : Option (Int × Int) := some (An.atV a0 a1, An.atE a0 a1)
theorem anchor_At.calls (a0 a1 : Int) (r1 r2 : Int) (w : World) (HTab : Aside0 (Tab w)) (h : anchor_At.f a0 a1 = some (r1, r2)) :
    Calls Tryd.prog 50 #[.int .i64 a0, .int .i64 a1] w fun e w' => e = .returned (.tuple #[.int .i64 r1, .int .i64 r2]) ∧ Below w.heap.size w w' := by
  simp only [anchor_At.f, Option.some.injEq, Prod.mk.injEq] at h
  obtain ⟨rfl, rfl⟩ := h
  exact anch.at_any a0 a1 w HTab.out
def anchor_Check.f (a0_0 a0_1 a0_2 : Int) : Option Int := some (An.ckE a0_0 a0_1 a0_2)
theorem anchor_Check.calls (a0_0 a0_1 a0_2 : Int) (r : Int) (w : World) (h : anchor_Check.f a0_0 a0_1 a0_2 = some r) :
    Calls Tryd.prog 45 #[.agg #[.int .i64 a0_0, .int .i64 a0_1, .int .i64 a0_2]] w fun e w' => e = .returned (.int .i64 r) ∧ Below w.heap.size w w' := by
  simp only [anchor_Check.f, Option.some.injEq] at h
  obtain rfl := h
  exact anch.check_any a0_0 a0_1 a0_2 w
noncomputable def anchor_Bound.f (a0_0 a0_1 a0_2 a1 : Int) : Option (Int × Int) := some (An.bV a0_0 a0_1 a0_2 a1, An.bE a0_0 a0_1 a0_2 a1)
theorem anchor_Bound.calls (a0_0 a0_1 a0_2 a1 : Int) (r1 r2 : Int) (w : World) (HTab : Aside0 (Tab w)) (h : anchor_Bound.f a0_0 a0_1 a0_2 a1 = some (r1, r2)) :
    Calls Tryd.prog 36 #[.agg #[.int .i64 a0_0, .int .i64 a0_1, .int .i64 a0_2], .int .i64 a1] w fun e w' => e = .returned (.tuple #[.int .i64 r1, .int .i64 r2]) ∧ Below w.heap.size w w' := by
  simp only [anchor_Bound.f, Option.some.injEq, Prod.mk.injEq] at h
  obtain ⟨rfl, rfl⟩ := h
  exact anch.bound_any a0_0 a0_1 a0_2 a1 w HTab.out
noncomputable def anchor_Find.f (a0_0 a0_1 a0_2 a1 : Int) : Option (Int × Int × Int × Int) :=
  some (An.fV a0_0 a0_1 a0_2 a1 (An.fk a0_0 a0_1 a0_2 a1), An.fV a0_0 a0_1 a0_2 a1 (An.B a0_0 a0_1 a0_2 (An.fk a0_0 a0_1 a0_2 a1)), An.fV a0_0 a0_1 a0_2 a1 (An.B a0_0 a0_1 a0_2 (An.fk a0_0 a0_1 a0_2 a1 + 1)), An.fE a0_0 a0_1 a0_2 a1)
theorem anchor_Find.calls (a0_0 a0_1 a0_2 a1 : Int) (r1 r2 r3 r4 : Int) (w : World) (HTab : Aside0 (Tab w)) (h : anchor_Find.f a0_0 a0_1 a0_2 a1 = some (r1, r2, r3, r4)) :
    Calls Tryd.prog 31 #[.agg #[.int .i64 a0_0, .int .i64 a0_1, .int .i64 a0_2], .int .i64 a1] w fun e w' => e = .returned (.tuple #[.int .i64 r1, .int .i64 r2, .int .i64 r3, .int .i64 r4]) ∧ Below w.heap.size w w' := by
  simp only [anchor_Find.f, Option.some.injEq, Prod.mk.injEq] at h
  obtain ⟨rfl, rfl, rfl, rfl⟩ := h
  exact anch.find_any a0_0 a0_1 a0_2 a1 w HTab.out
end Go.Proofs.YtibkbimhedoafaaDoor.PH

