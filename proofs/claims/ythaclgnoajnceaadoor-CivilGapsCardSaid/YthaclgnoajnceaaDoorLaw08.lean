/- The statements of chapter 08 (civil), walked: each answers true. The table of the days ahead of months holds its numbers. -/
import Derived.Test.YthaclgnoajnceaaDoorRef08D
namespace Go.Proofs.YthaclgnoajnceaaDoor.law08
open Go.RowKit Go.Proofs.YthaclgnoajnceaaDoor.civ

theorem h1 : Cv.dayV 1970 1 1 = 719163 ∧ Cv.dayE 1970 1 1 = 0 := by decide
theorem h2 : Cv.dayV 9999 12 31 = 3652059 ∧ Cv.dayE 9999 12 31 = 0 := by decide
theorem h3 : Cv.dayV 2023 2 29 = 0 ∧ Cv.dayE 2023 2 29 = 2 := by decide
theorem h4 : Cv.okD 719163 = true ∧ Cv.ofD 719163 = 12 * (1970 - 1) + 1 ∧ Cv.dtY 719163 = 1970 ∧ Cv.dtM 719163 = 1 ∧ Cv.dtD 719163 = 1 :=
  Cv.dt_of (by decide) (by decide) (by decide) (by decide) (by decide) (by decide) (by decide)
theorem h5 : Cv.fstV 23629 = 719163 ∧ Cv.lstV 23629 = 719193 ∧ Cv.mE 23629 = 0 := by decide
theorem h6 : Cv.dE 719163 = 0 := by decide
theorem k1 (w : World) (T : Tab w) : Calls Tryd.prog 9 #[.int .i64 1970, .int .i64 1, .int .i64 1] w fun e w' => e = .returned (.tuple #[.int .i64 719163, .int .i64 0]) ∧ w = w' :=
  (day_any _ _ _ w T (by decide)).mono fun _ _ ⟨a, b⟩ => ⟨a.trans (ret_two h1.1 h1.2), b⟩
theorem k2 (w : World) (T : Tab w) : Calls Tryd.prog 9 #[.int .i64 9999, .int .i64 12, .int .i64 31] w fun e w' => e = .returned (.tuple #[.int .i64 3652059, .int .i64 0]) ∧ w = w' :=
  (day_any _ _ _ w T (by decide)).mono fun _ _ ⟨a, b⟩ => ⟨a.trans (ret_two h2.1 h2.2), b⟩
theorem k3 (w : World) (T : Tab w) : Calls Tryd.prog 9 #[.int .i64 2023, .int .i64 2, .int .i64 29] w fun e w' => e = .returned (.tuple #[.int .i64 0, .int .i64 2]) ∧ w = w' :=
  (day_any _ _ _ w T (by decide)).mono fun _ _ ⟨a, b⟩ => ⟨a.trans (ret_two h3.1 h3.2), b⟩
theorem k4 (w : World) (T : Tab w) : Calls Tryd.prog 14 #[.int .i64 719163] w fun e w' => e = .returned (.tuple #[.int .i64 1970, .int .i64 1, .int .i64 1, .int .i64 0]) ∧ w = w' :=
  (date_any _ w T).mono fun _ _ ⟨a, b⟩ => ⟨a.trans (ret_four h4.2.2.1 h4.2.2.2.1 h4.2.2.2.2 h6), b⟩
theorem k5 (w : World) (T : Tab w) : Calls Tryd.prog 20 #[.int .i64 23629] w fun e w' => e = .returned (.tuple #[.int .i64 719163, .int .i64 719193, .int .i64 0]) ∧ w = w' :=
  (days_any _ w T).mono fun _ _ ⟨a, b⟩ => ⟨a.trans (ret_three h5.1 h5.2.1 h5.2.2), b⟩
theorem k6 (w : World) : Calls Tryd.prog 11 #[.int .i64 1900] w fun e w' => e = .returned (.bool false) ∧ w = w' := leap_f _ w (by decide)
theorem k7 (w : World) : Calls Tryd.prog 11 #[.int .i64 2000] w fun e w' => e = .returned (.bool true) ∧ w = w' := leap_t _ w (by decide)
theorem head_any (w : World) (T : Tab w) : Calls Tryd.prog 13 #[] w fun e w' => e = .returned (.bool true) ∧ w = w' := by
  have TT := Lib.hid T
  clear T
  go_enter Tryd.func13, Tryd.ntmps13
  go_wp2_with (first | (go_at_call 9; with_reducible (refine (k1 _ TT.out).mono ?_); rintro e w' ⟨rfl, rfl⟩) | (go_at_call 9; with_reducible (refine (k2 _ TT.out).mono ?_); rintro e w' ⟨rfl, rfl⟩) | (go_at_call 9; with_reducible (refine (k3 _ TT.out).mono ?_); rintro e w' ⟨rfl, rfl⟩) | (go_at_call 14; refine (k4 _ TT.out).mono ?_; rintro e w' ⟨rfl, rfl⟩) | (go_at_call 20; refine (k5 _ TT.out).mono ?_; rintro e w' ⟨rfl, rfl⟩) | (go_at_call 11; with_reducible (refine (k6 _).mono ?_); rintro e w' ⟨rfl, rfl⟩) | (go_at_call 11; with_reducible (refine (k7 _).mono ?_); rintro e w' ⟨rfl, rfl⟩))
  go_ret
  exact ⟨rfl, rfl⟩

theorem civilDays (y m d : Int) (w : World) (T : Tab w) (bd : -9223372036854775808 ≤ d ∧ d ≤ 9223372036854775807) :
    Calls Tryd.prog 3 #[.int .i64 y, .int .i64 m, .int .i64 d] w fun e w' => e = .returned (.bool true) ∧ w = w' := by
  have TT := Lib.hid T
  have BD := Lib.hid bd
  clear T bd
  go_enter Tryd.func3, Tryd.ntmps3
  go_wp2_with (first | (go_at_call 9; refine (day_any _ _ _ _ TT.out BD.out).mono ?_; rintro e w' ⟨rfl, rfl⟩) | (go_at_call 10; refine (ref08.day_any _ _ _ _).mono ?_; rintro e w' ⟨rfl, rfl⟩) | (go_at_call 11; refine (leap_any _ _).mono ?_; rintro e w' ⟨rfl, rfl⟩) | (go_at_call 12; refine (ref08.leap_any _ _).mono ?_; rintro e w' ⟨rfl, rfl⟩) | (go_at_call 13; refine (head_any _ TT.out).mono ?_; rintro e w' ⟨rfl, rfl⟩))
  go_ret
  exact ⟨rfl, rfl⟩
theorem civilDates (d : Int) (w : World) (T : Tab w) :
    Calls Tryd.prog 4 #[.int .i64 d] w fun e w' => e = .returned (.bool true) ∧ w = w' := by
  have TT := Lib.hid T
  clear T
  go_enter Tryd.func4, Tryd.ntmps4
  go_wp2_with (first | (go_at_call 14; refine (date_any _ _ TT.out).mono ?_; rintro e w' ⟨rfl, rfl⟩) | (go_at_call 15; refine (ref08.date_any _ _).mono ?_; rintro e w' ⟨rfl, rfl⟩) | (go_at_call 16; refine (of_any _ _ TT.out).mono ?_; rintro e w' ⟨rfl, rfl⟩) | (go_at_call 17; refine (ref08.of_any _ _).mono ?_; rintro e w' ⟨rfl, rfl⟩) | (go_at_call 13; refine (head_any _ TT.out).mono ?_; rintro e w' ⟨rfl, rfl⟩))
  go_ret
  exact ⟨rfl, rfl⟩
theorem civilMonths (y m M : Int) (w : World) (T : Tab w) :
    Calls Tryd.prog 5 #[.int .i64 y, .int .i64 m, .int .i64 M] w fun e w' => e = .returned (.bool true) ∧ w = w' := by
  have TT := Lib.hid T
  clear T
  go_enter Tryd.func5, Tryd.ntmps5
  go_wp2_with (first | (go_at_call 18; refine (month_any _ _ _).mono ?_; rintro e w' ⟨rfl, rfl⟩) | (go_at_call 19; refine (ref08.month_any _ _ _).mono ?_; rintro e w' ⟨rfl, rfl⟩) | (go_at_call 20; refine (days_any _ _ TT.out).mono ?_; rintro e w' ⟨rfl, rfl⟩) | (go_at_call 21; refine (ref08.days_any _ _).mono ?_; rintro e w' ⟨rfl, rfl⟩) | (go_at_call 13; refine (head_any _ TT.out).mono ?_; rintro e w' ⟨rfl, rfl⟩))
  go_ret
  exact ⟨rfl, rfl⟩
end Go.Proofs.YthaclgnoajnceaaDoor.law08
