/- The statement CivilBack of chapter 08, walked: it answers true. The table of the days ahead of months holds its numbers. -/
import Derived.Test.YthaclgnoajnceaaDoorLaw08
namespace Go.Proofs.YthaclgnoajnceaaDoor.law08
open Go.RowKit Go.Proofs.YthaclgnoajnceaaDoor.civ

theorem date_is {y m r D : Int} (h1 : 1 ≤ y) (h2 : y ≤ 9999) (h3 : 1 ≤ m) (h4 : m ≤ 12) (h5 : 1 ≤ r) (h6 : r ≤ Cv.lng y m) (h : r + Cv.bef y m = D) (w : World) (T : Tab w) :
    Calls Tryd.prog 14 #[.int .i64 D] w fun e w' => e = .returned (.tuple #[.int .i64 y, .int .i64 m, .int .i64 r, .int .i64 0]) ∧ w = w' := by
  obtain ⟨a, _, b, c, d⟩ := Cv.dt_of h1 h2 h3 h4 h5 h6 h
  exact (date_any D w T).mono fun _ _ ⟨p, q⟩ => ⟨p.trans (ret_four b c d (by simp [Cv.dE, a])), q⟩
theorem date_isnt {D : Int} (h : D < 1 ∨ 3652059 < D) (w : World) (T : Tab w) :
    Calls Tryd.prog 14 #[.int .i64 D] w fun e w' => e = .returned (.tuple #[.int .i64 0, .int .i64 0, .int .i64 0, .int .i64 2]) ∧ w = w' := by
  have a := Cv.okD_no h
  exact (date_any D w T).mono fun _ _ ⟨p, q⟩ => ⟨p.trans (ret_four (by simp [Cv.dtY, a]) (by simp [Cv.dtM, a]) (by simp [Cv.dtD, a]) (by simp [Cv.dE, a])), q⟩
theorem day_is {y m r D : Int} (h1 : 1 ≤ y) (h2 : y ≤ 9999) (h3 : 1 ≤ m) (h4 : m ≤ 12) (h5 : 1 ≤ r) (h6 : r ≤ Cv.lng y m) (h : r + Cv.bef y m = D) (w : World) (T : Tab w) :
    Calls Tryd.prog 9 #[.int .i64 y, .int .i64 m, .int .i64 r] w fun e w' => e = .returned (.tuple #[.int .i64 D, .int .i64 0]) ∧ w = w' := by
  obtain ⟨a, b⟩ := Cv.day_of h1 h2 h3 h4 h5 h6
  have := Cv.lng_bd y m
  exact (day_any y m r w T (by omega)).mono fun _ _ ⟨p, q⟩ => ⟨p.trans (ret_two (by omega) b), q⟩
/-- The date of the next day. -/
theorem next_day {y m r D : Int} (h1 : 1 ≤ y) (h2 : y ≤ 9999) (h3 : 1 ≤ m) (h4 : m ≤ 12) (h5 : 1 ≤ r) (h6 : r ≤ Cv.lng y m) (h : r + Cv.bef y m = D) (hD : D + 1 ≤ 3652059) :
    ∃ z n c : Int, (1 ≤ z ∧ z ≤ 9999 ∧ 1 ≤ n ∧ n ≤ 12 ∧ 1 ≤ c ∧ c ≤ Cv.lng z n ∧ c + Cv.bef z n = D + 1) ∧
      ((z = y ∧ n = m ∧ c = r + 1) ∨ (¬ (n = m) ∧ c = 1 ∧ z = y ∧ n = m + 1) ∨ (¬ (n = m) ∧ ¬ (z = y) ∧ ¬ (n = m + 1) ∧ c = 1 ∧ z = y + 1 ∧ n = 1 ∧ m = 12)) := by
  by_cases a : r < Cv.lng y m
  · exact ⟨y, m, r + 1, ⟨h1, h2, h3, h4, by omega, by omega, by omega⟩, Or.inl ⟨rfl, rfl, rfl⟩⟩
  · by_cases b : m < 12
    · have := Cv.bef_next y m h3 (by omega)
      have := Cv.lng_bd y (m + 1)
      exact ⟨y, m + 1, 1, ⟨h1, h2, by omega, by omega, by omega, by omega, by omega⟩, Or.inr (Or.inl ⟨by omega, rfl, rfl, rfl⟩)⟩
    · obtain rfl : m = 12 := by omega
      have t := Cv.bef_top y h1 h2
      have c : y + 1 ≤ 9999 := by
        by_cases e : y = 9999
        · exfalso; subst e; have : Cv.dby (9999 + 1) = 3652059 := Cv.dby_top; omega
        · omega
      have := Cv.bef_one (y + 1)
      have := Cv.lng_bd (y + 1) 1
      exact ⟨y + 1, 1, 1, ⟨by omega, c, by omega, by omega, by omega, by omega, by omega⟩, Or.inr (Or.inr ⟨by omega, by omega, by omega, rfl, rfl, rfl, rfl⟩)⟩

set_option maxRecDepth 100000 in
theorem back_no (D : Int) (w : World) (T : Tab w) (h : Cv.okD D = false) (bd : -9223372036854775808 ≤ D ∧ D ≤ 9223372036854775807) :
    Calls Tryd.prog 6 #[.int .i64 D] w fun e w' => e = .returned (.bool true) ∧ w = w' := by
  have h' := Cv.okD_f h
  have H := Lib.hid h'
  have TT := Lib.hid T
  clear T h
  rcases h' with h' | h'
  · go_enter Tryd.func6, Tryd.ntmps6
    go_wp2_with (first | (go_at_call 14; refine (date_isnt H.out _ TT.out).mono ?_; rintro e w' ⟨rfl, rfl⟩) | (go_at_call 13; refine (head_any _ TT.out).mono ?_; rintro e w' ⟨rfl, rfl⟩))
    go_ret
    exact ⟨rfl, rfl⟩
  · have h1 : 1 ≤ D := by omega
    go_enter Tryd.func6, Tryd.ntmps6
    go_wp2_with (first | (go_at_call 14; refine (date_isnt H.out _ TT.out).mono ?_; rintro e w' ⟨rfl, rfl⟩) | (go_at_call 13; refine (head_any _ TT.out).mono ?_; rintro e w' ⟨rfl, rfl⟩))
    go_ret
    exact ⟨rfl, rfl⟩

set_option maxRecDepth 100000 in
set_option maxHeartbeats 1000000 in
theorem back_yes (D y m r : Int) (w : World) (T : Tab w) (h1 : 1 ≤ y) (h2 : y ≤ 9999) (h3 : 1 ≤ m) (h4 : m ≤ 12) (h5 : 1 ≤ r) (h6 : r ≤ Cv.lng y m) (h : r + Cv.bef y m = D) :
    Calls Tryd.prog 6 #[.int .i64 D] w fun e w' => e = .returned (.bool true) ∧ w = w' := by
  obtain ⟨D1, D2⟩ := Cv.day_le h1 h2 h3 h4 h5 h6
  obtain ⟨Y1, Y2⟩ := Cv.day_yr h1 h2 h3 h4 h5 h6
  obtain ⟨_, l2⟩ := Cv.lng_bd y m
  rw [h] at D1 D2 Y1 Y2
  have TT := Lib.hid T
  have H6 := Lib.hid h6
  have H := Lib.hid h
  have HY := Lib.hid (And.intro Y1 Y2)
  have r31 : r ≤ 31 := by omega
  clear T h6 h Y1 Y2 l2
  by_cases g : y + 400 ≤ 9999
  · have C := Lib.hid (fun w T => date_is (D := D + 146097) (w := w) (T := T) (y := y + 400) (m := m) (r := r) (by omega) g h3 h4 h5 (by rw [Cv.lng_400 h1 g]; exact H6.out) (by rw [Cv.bef_400 h1 g]; have := H.out; omega))
    by_cases n : D + 1 ≤ 3652059
    · obtain ⟨z, n, c, q, K⟩ := next_day h1 h2 h3 h4 h5 H6.out H.out n
      obtain ⟨q1, q2, q3, q4, q5, q6, q7⟩ := q
      have Q6 := Lib.hid q6
      have Q7 := Lib.hid q7
      clear q6 q7
      rcases K with ⟨rfl, rfl, rfl⟩ | ⟨n1, rfl, rfl, rfl⟩ | ⟨n1, n2, n3, rfl, rfl, rfl, rfl⟩
      all_goals
        go_enter Tryd.func6, Tryd.ntmps6
        go_wp2_with (first | (go_at_call 14; with_reducible (refine (date_is h1 h2 h3 h4 h5 H6.out H.out _ TT.out).mono ?_); rintro e w' ⟨rfl, rfl⟩) | (go_at_call 14; with_reducible (refine (C.out _ TT.out).mono ?_); rintro e w' ⟨rfl, rfl⟩) | (go_at_call 14; with_reducible (refine (date_is q1 q2 q3 q4 q5 Q6.out Q7.out _ TT.out).mono ?_); rintro e w' ⟨rfl, rfl⟩) | (go_at_call 9; with_reducible (refine (day_is h1 h2 h3 h4 h5 H6.out H.out _ TT.out).mono ?_); rintro e w' ⟨rfl, rfl⟩) | (go_at_call 13; refine (head_any _ TT.out).mono ?_; rintro e w' ⟨rfl, rfl⟩))
        go_ret
        exact ⟨rfl, rfl⟩
    · exfalso
      have := HY.out.2
      have := Cv.dby_mono (a := y + 1) (b := 9599 + 1) (by omega)
      have : Cv.dby (9599 + 1) = 3505962 := by decide
      omega
  · have C := Lib.hid (fun w T => date_isnt (D := D + 146097) (w := w) (T := T) (by
      have := HY.out.1
      have := Cv.dby_mono (a := 9600) (b := y) (by omega)
      have : Cv.dby 9600 = 3505962 := by decide
      omega))
    by_cases n : D + 1 ≤ 3652059
    · obtain ⟨z, n, c, q, K⟩ := next_day h1 h2 h3 h4 h5 H6.out H.out n
      obtain ⟨q1, q2, q3, q4, q5, q6, q7⟩ := q
      have Q6 := Lib.hid q6
      have Q7 := Lib.hid q7
      clear q6 q7
      rcases K with ⟨rfl, rfl, rfl⟩ | ⟨n1, rfl, rfl, rfl⟩ | ⟨n1, n2, n3, rfl, rfl, rfl, rfl⟩
      all_goals
        go_enter Tryd.func6, Tryd.ntmps6
        go_wp2_with (first | (go_at_call 14; with_reducible (refine (date_is h1 h2 h3 h4 h5 H6.out H.out _ TT.out).mono ?_); rintro e w' ⟨rfl, rfl⟩) | (go_at_call 14; with_reducible (refine (C.out _ TT.out).mono ?_); rintro e w' ⟨rfl, rfl⟩) | (go_at_call 14; with_reducible (refine (date_is q1 q2 q3 q4 q5 Q6.out Q7.out _ TT.out).mono ?_); rintro e w' ⟨rfl, rfl⟩) | (go_at_call 9; with_reducible (refine (day_is h1 h2 h3 h4 h5 H6.out H.out _ TT.out).mono ?_); rintro e w' ⟨rfl, rfl⟩) | (go_at_call 13; refine (head_any _ TT.out).mono ?_; rintro e w' ⟨rfl, rfl⟩))
        go_ret
        exact ⟨rfl, rfl⟩
    · have N := Lib.hid (fun w T => date_isnt (D := D + 1) (w := w) (T := T) (by omega))
      have hm : (D == 3652059) = true := by have : D = 3652059 := by omega
                                            simpa using this
      go_enter Tryd.func6, Tryd.ntmps6
      go_wp2_with (first | (go_at_call 14; with_reducible (refine (date_is h1 h2 h3 h4 h5 H6.out H.out _ TT.out).mono ?_); rintro e w' ⟨rfl, rfl⟩) | (go_at_call 14; with_reducible (refine (C.out _ TT.out).mono ?_); rintro e w' ⟨rfl, rfl⟩) | (go_at_call 14; with_reducible (refine (N.out _ TT.out).mono ?_); rintro e w' ⟨rfl, rfl⟩) | (go_at_call 9; with_reducible (refine (day_is h1 h2 h3 h4 h5 H6.out H.out _ TT.out).mono ?_); rintro e w' ⟨rfl, rfl⟩) | (go_at_call 13; refine (head_any _ TT.out).mono ?_; rintro e w' ⟨rfl, rfl⟩))
      go_ret
      exact ⟨rfl, rfl⟩
theorem civilBack (D : Int) (w : World) (T : Tab w) (bd : -9223372036854775808 ≤ D ∧ D ≤ 9223372036854775807) :
    Calls Tryd.prog 6 #[.int .i64 D] w fun e w' => e = .returned (.bool true) ∧ w = w' := by
  cases h : Cv.okD D
  · exact back_no D w T h bd
  · obtain ⟨d1, d2⟩ := Cv.okD_t h
    obtain ⟨M1, M2, F1, F2⟩ := Cv.ofD_spec d1 d2
    obtain ⟨y1, y2⟩ := Cv.yr_bd M1 M2
    obtain ⟨m1, m2⟩ := Cv.mo_bd (Cv.ofD D)
    have a := Cv.fst_succ M1 M2
    have b : Cv.fst (Cv.ofD D) = Cv.bef (Cv.yr (Cv.ofD D)) (Cv.mo (Cv.ofD D)) + 1 := rfl
    exact back_yes D _ _ (D - Cv.fst (Cv.ofD D) + 1) w T y1 y2 m1 m2 (by omega) (by omega) (by omega)
end Go.Proofs.YthaclgnoajnceaaDoor.law08
