/- The statement CivilOrder of chapter 08, walked: it answers true. The table of the days ahead of months holds its numbers. -/
import Derived.Test.YthaclgnoajnceaaDoorLaw08C
import Derived.RowKit3
namespace Go.Proofs.YthaclgnoajnceaaDoor.law08
open Go.RowKit Go.Proofs.YthaclgnoajnceaaDoor.civ

/-- What Day answers of a date: some number and an error's. -/
def DayIs (y m d v e : Int) : Prop := ∀ w : World, Tab w → Calls Tryd.prog 9 #[.int .i64 y, .int .i64 m, .int .i64 d] w fun r w' => r = .returned (.tuple #[.int .i64 v, .int .i64 e]) ∧ w = w'
theorem DayIs.to {y m d v e : Int} (h : DayIs y m d v e) (w : World) (T : Tab w) : Calls Tryd.prog 9 #[.int .i64 y, .int .i64 m, .int .i64 d] w fun r w' => r = .returned (.tuple #[.int .i64 v, .int .i64 e]) ∧ w = w' := h w T
theorem dayIs {y m d : Int} (bd : -9223372036854775808 ≤ d ∧ d ≤ 9223372036854775807) : DayIs y m d (Cv.dayV y m d) (Cv.dayE y m d) := fun w T => day_any y m d w T bd

set_option maxRecDepth 100000 in
theorem order_no (y m d y' m' d' v e v' e' : Int) (w : World) (T : Tab w) (hp : DayIs y m d v e) (hq : DayIs y' m' d' v' e') (h : ((e != 0) = true ∧ (e' != 0) = true) ∨ ((e != 0) = true ∧ (e' != 0) = false) ∨ ((e != 0) = false ∧ (e' != 0) = true)) :
    Calls Tryd.prog 7 #[.agg #[.int .i64 y, .int .i64 m, .int .i64 d], .agg #[.int .i64 y', .int .i64 m', .int .i64 d']] w fun e w' => e = .returned (.bool true) ∧ Grown w w' := by
  have TT := Lib.hid T
  have KP := Lib.hid hp
  have KQ := Lib.hid hq
  clear T hp hq
  rcases h with ⟨h1, h2⟩ | ⟨h1, h2⟩ | ⟨h1, h2⟩
  all_goals
    go_enter Tryd.func7, Tryd.ntmps7
    go_wp2_with (first | (go_at_call 9; with_reducible (refine (KP.out.to _ ((TT.out.alloc _).alloc _)).mono ?_); rintro e w' ⟨rfl, rfl⟩) | (go_at_call 9; with_reducible (refine (KQ.out.to _ ((TT.out.alloc _).alloc _)).mono ?_); rintro e w' ⟨rfl, rfl⟩) | (go_at_call 13; refine (head_any _ ((TT.out.alloc _).alloc _)).mono ?_; rintro e w' ⟨rfl, rfl⟩))
    go_ret
    exact ⟨rfl, by repeat (first | exact Grown.refl _ | apply Grown.alloc)⟩

set_option maxRecDepth 100000 in
set_option maxHeartbeats 1000000 in
theorem order_lt (y m d y' m' d' v v' : Int) (w : World) (T : Tab w) (hp : DayIs y m d v 0) (hq : DayIs y' m' d' v' 0) (hv : v < v') (h : y < y' ∨ y = y' ∧ (m < m' ∨ m = m' ∧ d < d')) :
    Calls Tryd.prog 7 #[.agg #[.int .i64 y, .int .i64 m, .int .i64 d], .agg #[.int .i64 y', .int .i64 m', .int .i64 d']] w fun e w' => e = .returned (.bool true) ∧ Grown w w' := by
  have TT := Lib.hid T
  have KP := Lib.hid hp
  have KQ := Lib.hid hq
  have v1 : (v == v') = false := by simp; omega
  clear T hp hq
  rcases h with h | ⟨rfl, h | ⟨rfl, h⟩⟩
  · have s1 : (y == y') = false := by simp; omega
    go_enter Tryd.func7, Tryd.ntmps7
    go_wp2_with (first | (go_at_call 9; with_reducible (refine (KP.out.to _ ((TT.out.alloc _).alloc _)).mono ?_); rintro e w' ⟨rfl, rfl⟩) | (go_at_call 9; with_reducible (refine (KQ.out.to _ ((TT.out.alloc _).alloc _)).mono ?_); rintro e w' ⟨rfl, rfl⟩) | (go_at_call 13; refine (head_any _ ((TT.out.alloc _).alloc _)).mono ?_; rintro e w' ⟨rfl, rfl⟩))
    go_ret
    exact ⟨rfl, by repeat (first | exact Grown.refl _ | apply Grown.alloc)⟩
  · have s1 : (m == m') = false := by simp; omega
    go_enter Tryd.func7, Tryd.ntmps7
    go_wp2_with (first | (go_at_call 9; with_reducible (refine (KP.out.to _ ((TT.out.alloc _).alloc _)).mono ?_); rintro e w' ⟨rfl, rfl⟩) | (go_at_call 9; with_reducible (refine (KQ.out.to _ ((TT.out.alloc _).alloc _)).mono ?_); rintro e w' ⟨rfl, rfl⟩) | (go_at_call 13; refine (head_any _ ((TT.out.alloc _).alloc _)).mono ?_; rintro e w' ⟨rfl, rfl⟩))
    go_ret
    exact ⟨rfl, by repeat (first | exact Grown.refl _ | apply Grown.alloc)⟩
  · have s1 : (d == d') = false := by simp; omega
    go_enter Tryd.func7, Tryd.ntmps7
    go_wp2_with (first | (go_at_call 9; with_reducible (refine (KP.out.to _ ((TT.out.alloc _).alloc _)).mono ?_); rintro e w' ⟨rfl, rfl⟩) | (go_at_call 9; with_reducible (refine (KQ.out.to _ ((TT.out.alloc _).alloc _)).mono ?_); rintro e w' ⟨rfl, rfl⟩) | (go_at_call 13; refine (head_any _ ((TT.out.alloc _).alloc _)).mono ?_; rintro e w' ⟨rfl, rfl⟩))
    go_ret
    exact ⟨rfl, by repeat (first | exact Grown.refl _ | apply Grown.alloc)⟩

set_option maxRecDepth 100000 in
set_option maxHeartbeats 1000000 in
theorem order_gt (y m d y' m' d' v v' : Int) (w : World) (T : Tab w) (hp : DayIs y m d v 0) (hq : DayIs y' m' d' v' 0) (hv : v' < v) (h : y' < y ∨ y' = y ∧ (m' < m ∨ m' = m ∧ d' < d)) :
    Calls Tryd.prog 7 #[.agg #[.int .i64 y, .int .i64 m, .int .i64 d], .agg #[.int .i64 y', .int .i64 m', .int .i64 d']] w fun e w' => e = .returned (.bool true) ∧ Grown w w' := by
  have TT := Lib.hid T
  have KP := Lib.hid hp
  have KQ := Lib.hid hq
  have v1 : (v == v') = false := by simp; omega
  clear T hp hq
  rcases h with h | ⟨rfl, h | ⟨rfl, h⟩⟩
  · have s1 : (y == y') = false := by simp; omega
    go_enter Tryd.func7, Tryd.ntmps7
    go_wp2_with (first | (go_at_call 9; with_reducible (refine (KP.out.to _ ((TT.out.alloc _).alloc _)).mono ?_); rintro e w' ⟨rfl, rfl⟩) | (go_at_call 9; with_reducible (refine (KQ.out.to _ ((TT.out.alloc _).alloc _)).mono ?_); rintro e w' ⟨rfl, rfl⟩) | (go_at_call 13; refine (head_any _ ((TT.out.alloc _).alloc _)).mono ?_; rintro e w' ⟨rfl, rfl⟩))
    go_ret
    exact ⟨rfl, by repeat (first | exact Grown.refl _ | apply Grown.alloc)⟩
  · have s1 : (m == m') = false := by simp; omega
    go_enter Tryd.func7, Tryd.ntmps7
    go_wp2_with (first | (go_at_call 9; with_reducible (refine (KP.out.to _ ((TT.out.alloc _).alloc _)).mono ?_); rintro e w' ⟨rfl, rfl⟩) | (go_at_call 9; with_reducible (refine (KQ.out.to _ ((TT.out.alloc _).alloc _)).mono ?_); rintro e w' ⟨rfl, rfl⟩) | (go_at_call 13; refine (head_any _ ((TT.out.alloc _).alloc _)).mono ?_; rintro e w' ⟨rfl, rfl⟩))
    go_ret
    exact ⟨rfl, by repeat (first | exact Grown.refl _ | apply Grown.alloc)⟩
  · have s1 : (d == d') = false := by simp; omega
    go_enter Tryd.func7, Tryd.ntmps7
    go_wp2_with (first | (go_at_call 9; with_reducible (refine (KP.out.to _ ((TT.out.alloc _).alloc _)).mono ?_); rintro e w' ⟨rfl, rfl⟩) | (go_at_call 9; with_reducible (refine (KQ.out.to _ ((TT.out.alloc _).alloc _)).mono ?_); rintro e w' ⟨rfl, rfl⟩) | (go_at_call 13; refine (head_any _ ((TT.out.alloc _).alloc _)).mono ?_; rintro e w' ⟨rfl, rfl⟩))
    go_ret
    exact ⟨rfl, by repeat (first | exact Grown.refl _ | apply Grown.alloc)⟩
set_option maxRecDepth 100000 in
theorem order_eq (y m d v : Int) (w : World) (T : Tab w) (hp : DayIs y m d v 0) :
    Calls Tryd.prog 7 #[.agg #[.int .i64 y, .int .i64 m, .int .i64 d], .agg #[.int .i64 y, .int .i64 m, .int .i64 d]] w fun e w' => e = .returned (.bool true) ∧ Grown w w' := by
  have TT := Lib.hid T
  have KP := Lib.hid hp
  have KQ := Lib.hid hp
  clear T hp
  go_enter Tryd.func7, Tryd.ntmps7
  go_wp2_with (first | (go_at_call 9; with_reducible (refine (KP.out.to _ ((TT.out.alloc _).alloc _)).mono ?_); rintro e w' ⟨rfl, rfl⟩) | (go_at_call 9; with_reducible (refine (KQ.out.to _ ((TT.out.alloc _).alloc _)).mono ?_); rintro e w' ⟨rfl, rfl⟩) | (go_at_call 13; refine (head_any _ ((TT.out.alloc _).alloc _)).mono ?_; rintro e w' ⟨rfl, rfl⟩))
  go_ret
  exact ⟨rfl, by repeat (first | exact Grown.refl _ | apply Grown.alloc)⟩
theorem civilOrder (y m d y' m' d' : Int) (w : World) (T : Tab w) (_bd1 : -9223372036854775808 ≤ y ∧ y ≤ 9223372036854775807) (_bd2 : -9223372036854775808 ≤ m ∧ m ≤ 9223372036854775807) (bd : -9223372036854775808 ≤ d ∧ d ≤ 9223372036854775807) (_bd3 : -9223372036854775808 ≤ y' ∧ y' ≤ 9223372036854775807) (_bd4 : -9223372036854775808 ≤ m' ∧ m' ≤ 9223372036854775807) (bd' : -9223372036854775808 ≤ d' ∧ d' ≤ 9223372036854775807) :
    Calls Tryd.prog 7 #[.agg #[.int .i64 y, .int .i64 m, .int .i64 d], .agg #[.int .i64 y', .int .i64 m', .int .i64 d']] w fun e w' => e = .returned (.bool true) ∧ Grown w w' := by
  have P := dayIs (y := y) (m := m) bd
  have Q := dayIs (y := y') (m := m') bd'
  cases hp : Cv.dayOk y m d
  · refine order_no _ _ _ _ _ _ _ _ _ _ w T P Q ?_
    have e1 : Cv.dayE y m d = 2 := by simp [Cv.dayE, hp]
    rw [e1]
    cases hq : Cv.dayOk y' m' d'
    · have e2 : Cv.dayE y' m' d' = 2 := by simp [Cv.dayE, hq]
      rw [e2]; decide
    · have e2 : Cv.dayE y' m' d' = 0 := by simp [Cv.dayE, hq]
      rw [e2]; decide
  · have e1 : Cv.dayE y m d = 0 := by simp [Cv.dayE, hp]
    rw [e1] at P
    cases hq : Cv.dayOk y' m' d'
    · refine order_no _ _ _ _ _ _ _ _ _ _ w T P Q ?_
      have e2 : Cv.dayE y' m' d' = 2 := by simp [Cv.dayE, hq]
      rw [e2]; decide
    · have e2 : Cv.dayE y' m' d' = 0 := by simp [Cv.dayE, hq]
      rw [e2] at Q
      obtain ⟨⟨a1, a2, a3, a4⟩, a5, a6⟩ := Cv.dayOk_t hp
      obtain ⟨⟨b1, b2, b3, b4⟩, b5, b6⟩ := Cv.dayOk_t hq
      have v1 : Cv.dayV y m d = Cv.bef y m + d := by simp [Cv.dayV, hp]
      have v2 : Cv.dayV y' m' d' = Cv.bef y' m' + d' := by simp [Cv.dayV, hq]
      by_cases h : y < y' ∨ y = y' ∧ (m < m' ∨ m = m' ∧ d < d')
      · exact order_lt _ _ _ _ _ _ _ _ w T P Q (by rw [v1, v2]; exact Cv.day_lt a1 a2 a3 a4 a6 b1 b2 b3 b4 b5 h) h
      · by_cases g : y' < y ∨ y' = y ∧ (m' < m ∨ m' = m ∧ d' < d)
        · exact order_gt _ _ _ _ _ _ _ _ w T P Q (by rw [v1, v2]; exact Cv.day_lt b1 b2 b3 b4 b6 a1 a2 a3 a4 a5 g) g
        · obtain rfl : y = y' := by omega
          obtain rfl : m = m' := by omega
          obtain rfl : d = d' := by omega
          exact order_eq _ _ _ _ w T P
end Go.Proofs.YthaclgnoajnceaaDoor.law08
