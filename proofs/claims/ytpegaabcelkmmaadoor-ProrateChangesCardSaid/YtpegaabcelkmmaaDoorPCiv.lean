/- What package civil's functions and quittanceref08's answer, in the printed form. The table of the days ahead of months holds its numbers, where package civil is called. -/
import Derived.Test.YtpegaabcelkmmaaDoorPBase
import Derived.Test.YtpegaabcelkmmaaDoorRef08D
namespace Go.Proofs.YtpegaabcelkmmaaDoor.PH
open Go.RowKit Go.Proofs.YtpegaabcelkmmaaDoorW.PrintWords

noncomputable def civil_Of.f (a0 : Int) : Option (Int × Int) := some (Cv.ofV a0, Cv.dE a0)
theorem civil_Of.calls (a0 : Int) (r1 r2 : Int) (w : World) (HTab : Aside0 (Tab w)) (h : civil_Of.f a0 = some (r1, r2)) :
    Calls Tryd.prog 39 #[.int .i64 a0] w fun e w' => e = .returned (.tuple #[.int .i64 r1, .int .i64 r2]) ∧ Drawn0 w w' := by
  simp only [civil_Of.f, Option.some.injEq, Prod.mk.injEq] at h
  obtain ⟨rfl, rfl⟩ := h
  exact quiet_of (civ.of_any a0 w HTab.out)
def civil_Days.f (a0 : Int) : Option (Int × Int × Int) := some (Cv.fstV a0, Cv.lstV a0, Cv.mE a0)
theorem civil_Days.calls (a0 : Int) (r1 r2 r3 : Int) (w : World) (HTab : Aside0 (Tab w)) (h : civil_Days.f a0 = some (r1, r2, r3)) :
    Calls Tryd.prog 40 #[.int .i64 a0] w fun e w' => e = .returned (.tuple #[.int .i64 r1, .int .i64 r2, .int .i64 r3]) ∧ Drawn0 w w' := by
  simp only [civil_Days.f, Option.some.injEq, Prod.mk.injEq] at h
  obtain ⟨rfl, rfl, rfl⟩ := h
  exact quiet_of (civ.days_any a0 w HTab.out)
noncomputable def quittanceref08_Of.f (a0 : Int) : Option (Int × Int) := some (Cv.ofV a0, Cv.dE a0)
theorem quittanceref08_Of.calls (a0 : Int) (r1 r2 : Int) (w : World) (h : quittanceref08_Of.f a0 = some (r1, r2)) :
    Calls Tryd.prog 21 #[.int .i64 a0] w fun e w' => e = .returned (.tuple #[.int .i64 r1, .int .i64 r2]) ∧ Drawn0 w w' := by
  simp only [quittanceref08_Of.f, Option.some.injEq, Prod.mk.injEq] at h
  obtain ⟨rfl, rfl⟩ := h
  exact quiet_of (ref08.of_any a0 w)
def quittanceref08_Days.f (a0 : Int) : Option (Int × Int × Int) := some (Cv.fstV a0, Cv.lstV a0, Cv.mE a0)
theorem quittanceref08_Days.calls (a0 : Int) (r1 r2 r3 : Int) (w : World) (h : quittanceref08_Days.f a0 = some (r1, r2, r3)) :
    Calls Tryd.prog 20 #[.int .i64 a0] w fun e w' => e = .returned (.tuple #[.int .i64 r1, .int .i64 r2, .int .i64 r3]) ∧ Drawn0 w w' := by
  simp only [quittanceref08_Days.f, Option.some.injEq, Prod.mk.injEq] at h
  obtain ⟨rfl, rfl, rfl⟩ := h
  exact quiet_of (ref08.days_any a0 w)
noncomputable def quittanceref08_Date.f (a0 : Int) : Option (Int × Int × Int × Int) := some (Cv.dtY a0, Cv.dtM a0, Cv.dtD a0, Cv.dE a0)
theorem quittanceref08_Date.calls (a0 : Int) (r1 r2 r3 r4 : Int) (w : World) (h : quittanceref08_Date.f a0 = some (r1, r2, r3, r4)) :
    Calls Tryd.prog 34 #[.int .i64 a0] w fun e w' => e = .returned (.tuple #[.int .i64 r1, .int .i64 r2, .int .i64 r3, .int .i64 r4]) ∧ Drawn0 w w' := by
  simp only [quittanceref08_Date.f, Option.some.injEq, Prod.mk.injEq] at h
  obtain ⟨rfl, rfl, rfl, rfl⟩ := h
  exact quiet_of (ref08.date_any a0 w)
def quittanceref08_Day.f (a0 a1 a2 : Int) : Option (Int × Int) := some (Cv.dayV a0 a1 a2, Cv.dayE a0 a1 a2)
theorem quittanceref08_Day.calls (a0 a1 a2 : Int) (r1 r2 : Int) (w : World) (h : quittanceref08_Day.f a0 a1 a2 = some (r1, r2)) :
    Calls Tryd.prog 27 #[.int .i64 a0, .int .i64 a1, .int .i64 a2] w fun e w' => e = .returned (.tuple #[.int .i64 r1, .int .i64 r2]) ∧ Drawn0 w w' := by
  simp only [quittanceref08_Day.f, Option.some.injEq, Prod.mk.injEq] at h
  obtain ⟨rfl, rfl⟩ := h
  exact quiet_of (ref08.day_any a0 a1 a2 w)
def quittanceref08_Month.f (a0 a1 : Int) : Option (Int × Int) := some (Cv.monV a0 a1, Cv.monE a0 a1)
theorem quittanceref08_Month.calls (a0 a1 : Int) (r1 r2 : Int) (w : World) (h : quittanceref08_Month.f a0 a1 = some (r1, r2)) :
    Calls Tryd.prog 35 #[.int .i64 a0, .int .i64 a1] w fun e w' => e = .returned (.tuple #[.int .i64 r1, .int .i64 r2]) ∧ Drawn0 w w' := by
  simp only [quittanceref08_Month.f, Option.some.injEq, Prod.mk.injEq] at h
  obtain ⟨rfl, rfl⟩ := h
  exact quiet_of (ref08.month_any a0 a1 w)
def quittanceref08_Long.f (a0 a1 : Int) : Option Int := some (Cv.lng a0 a1)
theorem quittanceref08_Long.calls (a0 a1 : Int) (r : Int) (w : World) (h : quittanceref08_Long.f a0 a1 = some r) :
    Calls Tryd.prog 29 #[.int .i64 a0, .int .i64 a1] w fun e w' => e = .returned (.int .i64 r) ∧ Drawn0 w w' := by
  simp only [quittanceref08_Long.f, Option.some.injEq] at h
  obtain rfl := h
  exact quiet_of (ref08.long_any a0 a1 w)
def quittanceref08_Leap.f (a0 : Int) : Option Bool := some (Cv.lp a0)
theorem quittanceref08_Leap.calls (a0 : Int) (r : Bool) (w : World) (h : quittanceref08_Leap.f a0 = some r) :
    Calls Tryd.prog 41 #[.int .i64 a0] w fun e w' => e = .returned (.bool r) ∧ Drawn0 w w' := by
  simp only [quittanceref08_Leap.f, Option.some.injEq] at h
  obtain rfl := h
  exact quiet_of (ref08.leap_any a0 w)
end Go.Proofs.YtpegaabcelkmmaaDoor.PH
