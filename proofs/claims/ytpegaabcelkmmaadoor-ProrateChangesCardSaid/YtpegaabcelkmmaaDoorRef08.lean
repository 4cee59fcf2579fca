/- What the functions of package quittanceref08 answer (walks): the same as package civil's. No conditions but that numbers are of 64 bits. -/
import Derived.Test.YtpegaabcelkmmaaDoorCivilB
namespace Go.Proofs.YtpegaabcelkmmaaDoor.ref08
open Go.RowKit Go.Proofs.YtpegaabcelkmmaaDoor.civ

theorem leap_any (y : Int) (w : World) : Calls Tryd.prog 41 #[.int .i64 y] w fun e w' => e = .returned (.bool (Cv.lp y)) ∧ w = w' := by
  by_cases h1 : 1 ≤ y
  · by_cases h2 : y ≤ 9999
    · by_cases h3 : y % 400 = 0
      · have hb : (y % 400 == 0) = true := by simpa using h3
        have H3 := Lib.hid h3
        clear h3
        go_enter Tryd.func41, Tryd.ntmps41
        go_wp2
        go_ret
        exact ⟨ret_bool (Cv.lp_f h1 h2 H3.out), rfl⟩
      · have hb : (y % 400 == 0) = false := by simpa using h3
        have H3 := Lib.hid h3
        clear h3
        by_cases h4 : y % 4 = 0
        · have hc : (y % 4 == 0) = true := by simpa using h4
          have H4 := Lib.hid h4
          clear h4
          go_enter Tryd.func41, Tryd.ntmps41
          go_wp2
          go_ret
          exact ⟨ret_bool (Cv.lp_g h1 h2 H4.out H3.out), rfl⟩
        · have hc : (y % 4 == 0) = false := by simpa using h4
          have H4 := Lib.hid h4
          clear h4
          go_enter Tryd.func41, Tryd.ntmps41
          go_wp2
          go_ret
          exact ⟨ret_bool (Cv.lp_c H4.out), rfl⟩
    · go_enter Tryd.func41, Tryd.ntmps41
      go_wp2
      go_ret
      exact ⟨ret_bool (Cv.lp_e (by omega)), rfl⟩
  · go_enter Tryd.func41, Tryd.ntmps41
    go_wp2
    go_ret
    exact ⟨ret_bool (Cv.lp_d (by omega)), rfl⟩
theorem leap_t (y : Int) (w : World) (h : Cv.lp y = true) : Calls Tryd.prog 41 #[.int .i64 y] w fun e w' => e = .returned (.bool true) ∧ w = w' :=
  (leap_any y w).mono fun _ _ ⟨a, b⟩ => ⟨by rw [a, h], b⟩
theorem leap_f (y : Int) (w : World) (h : Cv.lp y = false) : Calls Tryd.prog 41 #[.int .i64 y] w fun e w' => e = .returned (.bool false) ∧ w = w' :=
  (leap_any y w).mono fun _ _ ⟨a, b⟩ => ⟨by rw [a, h], b⟩
theorem year_any (y : Int) (w : World) : Calls Tryd.prog 37 #[.int .i64 y] w fun e w' => e = .returned (.int .i64 (365 + Cv.lpI y)) ∧ w = w' := by
  cases h : Cv.lp y
  · have H := Lib.hid h
    clear h
    go_enter Tryd.func37, Tryd.ntmps37
    go_wp2_with (go_at_call 41; refine (leap_f _ _ H.out).mono ?_; rintro e w' ⟨rfl, rfl⟩)
    go_ret
    exact ⟨ret_int (Cv.yrJ y H.out), rfl⟩
  · have H := Lib.hid h
    clear h
    go_enter Tryd.func37, Tryd.ntmps37
    go_wp2_with (go_at_call 41; refine (leap_t _ _ H.out).mono ?_; rintro e w' ⟨rfl, rfl⟩)
    go_ret
    exact ⟨ret_int (Cv.yrI y H.out), rfl⟩
theorem long_any (y m : Int) (w : World) : Calls Tryd.prog 29 #[.int .i64 y, .int .i64 m] w fun e w' => e = .returned (.int .i64 (Cv.lng y m)) ∧ w = w' := by
  by_cases h2 : m = 2
  · have hb : (m == 2) = true := by simpa using h2
    have H2 := Lib.hid h2
    clear h2
    cases h : Cv.lp y
    · have H := Lib.hid h
      clear h
      go_enter Tryd.func29, Tryd.ntmps29
      go_wp2_with (go_at_call 41; refine (leap_f _ _ H.out).mono ?_; rintro e w' ⟨rfl, rfl⟩)
      go_ret
      exact ⟨ret_int (Cv.lng_b H2.out H.out), rfl⟩
    · have H := Lib.hid h
      clear h
      go_enter Tryd.func29, Tryd.ntmps29
      go_wp2_with (go_at_call 41; refine (leap_t _ _ H.out).mono ?_; rintro e w' ⟨rfl, rfl⟩)
      go_ret
      exact ⟨ret_int (Cv.lng_a H2.out H.out), rfl⟩
  · have hb : (m == 2) = false := by simpa using h2
    have H2 := Lib.hid h2
    clear h2
    by_cases h : m = 4 ∨ m = 6 ∨ m = 9 ∨ m = 11
    · rcases h with h | h | h | h
      all_goals
        have b4 : (m == 4) = decide (m = 4) := rfl
        have b6 : (m == 6) = decide (m = 6) := rfl
        have b9 : (m == 9) = decide (m = 9) := rfl
        have b11 : (m == 11) = decide (m = 11) := rfl
        simp [h] at b4 b6 b9 b11 hb
        subst h
        go_enter Tryd.func29, Tryd.ntmps29
        go_wp2
        go_ret
        exact ⟨ret_int (Cv.lng_c (by omega)), rfl⟩
    · have H := Lib.hid h
      have b4 : (m == 4) = false := by simp; omega
      have b6 : (m == 6) = false := by simp; omega
      have b9 : (m == 9) = false := by simp; omega
      have b11 : (m == 11) = false := by simp; omega
      clear h
      go_enter Tryd.func29, Tryd.ntmps29
      go_wp2
      go_ret
      exact ⟨ret_int (Cv.lng_d H2.out H.out), rfl⟩
theorem month_any (y m : Int) (w : World) : Calls Tryd.prog 35 #[.int .i64 y, .int .i64 m] w fun e w' => e = .returned (.tuple #[.int .i64 (Cv.monV y m), .int .i64 (Cv.monE y m)]) ∧ w = w' := by
  cases h : Cv.okYM y m
  · have e1 : 0 = Cv.monV y m := by simp [Cv.monV, h]
    have e2 : 2 = Cv.monE y m := by simp [Cv.monE, h]
    have h' := Cv.okYM_f h
    have E := Lib.hid (And.intro e1 e2)
    clear e1 e2 h
    by_cases h1 : 1 ≤ y <;> by_cases h2 : y ≤ 9999 <;> by_cases h3 : 1 ≤ m <;> by_cases h4 : m ≤ 12
    all_goals first | (exfalso; omega) | skip
    all_goals
      clear h'
      go_enter Tryd.func35, Tryd.ntmps35
      go_wp2
      go_ret2
      exact ⟨ret_two E.out.1 E.out.2, rfl⟩
  · have e1 : 12 * (y - 1) + m = Cv.monV y m := by simp [Cv.monV, h]
    have e2 : 0 = Cv.monE y m := by simp [Cv.monE, h]
    obtain ⟨h1, h2, h3, h4⟩ := Cv.okYM_t h
    have E := Lib.hid (And.intro e1 e2)
    clear e1 e2 h
    go_enter Tryd.func35, Tryd.ntmps35
    go_wp2
    go_ret2
    exact ⟨ret_two E.out.1 E.out.2, rfl⟩
theorem day_no (y m d : Int) (w : World) (h : Cv.dayOk y m d = false) : Calls Tryd.prog 27 #[.int .i64 y, .int .i64 m, .int .i64 d] w fun e w' => e = .returned (.tuple #[.int .i64 0, .int .i64 2]) ∧ w = w' := by
  by_cases g : y < 1
  · clear h
    go_enter Tryd.func27, Tryd.ntmps27
    go_wp2_with (go_at_call 29; refine (long_any _ _ _).mono ?_; rintro e w' ⟨rfl, rfl⟩)
    go_ret2
    exact ⟨rfl, rfl⟩
  have h1 : 1 ≤ y := by omega
  clear g
  by_cases g : 9999 < y
  · clear h
    go_enter Tryd.func27, Tryd.ntmps27
    go_wp2_with (go_at_call 29; refine (long_any _ _ _).mono ?_; rintro e w' ⟨rfl, rfl⟩)
    go_ret2
    exact ⟨rfl, rfl⟩
  have h2 : y ≤ 9999 := by omega
  clear g
  by_cases g : m < 1
  · clear h
    go_enter Tryd.func27, Tryd.ntmps27
    go_wp2_with (go_at_call 29; refine (long_any _ _ _).mono ?_; rintro e w' ⟨rfl, rfl⟩)
    go_ret2
    exact ⟨rfl, rfl⟩
  have h3 : 1 ≤ m := by omega
  clear g
  by_cases g : 12 < m
  · clear h
    go_enter Tryd.func27, Tryd.ntmps27
    go_wp2_with (go_at_call 29; refine (long_any _ _ _).mono ?_; rintro e w' ⟨rfl, rfl⟩)
    go_ret2
    exact ⟨rfl, rfl⟩
  have h4 : m ≤ 12 := by omega
  clear g
  by_cases g : d < 1
  · clear h
    go_enter Tryd.func27, Tryd.ntmps27
    go_wp2_with (go_at_call 29; refine (long_any _ _ _).mono ?_; rintro e w' ⟨rfl, rfl⟩)
    go_ret2
    exact ⟨rfl, rfl⟩
  have h5 : 1 ≤ d := by omega
  clear g
  have h6 : Cv.lng y m < d := by
    have : ¬ d ≤ Cv.lng y m := fun q => by rw [Cv.dayOk_mk (Cv.okYM_mk h1 h2 h3 h4) h5 q] at h; cases h
    omega
  clear h
  go_enter Tryd.func27, Tryd.ntmps27
  go_wp2_with (go_at_call 29; refine (long_any _ _ _).mono ?_; rintro e w' ⟨rfl, rfl⟩)
  go_ret2
  exact ⟨rfl, rfl⟩
theorem day_yes (y m d : Int) (w : World) (h1 : 1 ≤ y) (h2 : y ≤ 9999) (h3 : 1 ≤ m) (h4 : m ≤ 12) (h5 : 1 ≤ d) (h6 : d ≤ Cv.lng y m) : Calls Tryd.prog 27 #[.int .i64 y, .int .i64 m, .int .i64 d] w fun e w' => e = .returned (.tuple #[.int .i64 (Cv.bef y m + d), .int .i64 0]) ∧ w = w' := by
  obtain ⟨l1, l2⟩ := Cv.lng_bd y m
  have D0 := Lib.hid (Cv.dby_400 y)
  go_enter Tryd.func27, Tryd.ntmps27
  go_wp2_with (go_at_call 29; refine (long_any _ _ _).mono ?_; rintro e w' ⟨rfl, rfl⟩)
  go_loop [8, 9] (fun n i => ∃ k : Int, 1 ≤ k ∧ k ≤ y ∧ i = .int .i64 k ∧ n = .int .i64 (d + Cv.dby k)) (fun _ i => (y - intOf i).toNat)
  case atStart => exact ⟨_, by omega, by omega, rfl, by rw [D0.out]⟩
  case round =>
    obtain ⟨k, k1, k2, rfl, rfl⟩ := hrel
    obtain ⟨b1, b2⟩ := Cv.dby_bd k k1 (by omega)
    obtain ⟨p1, p2⟩ := Cv.lpI_01 k
    by_cases hk : k < y
    · have S := Lib.hid (Cv.dby_succ k k1 (by omega))
      go_wp2_with (go_at_call 37; refine (year_any _ _).mono ?_; rintro e w' ⟨rfl, rfl⟩)
      go_round
      case rel => exact ⟨k + 1, by omega, by omega, rfl, by rw [S.out]; go_num⟩
      case measure => simp [intOf]; omega
    · obtain rfl : k = y := by omega
      have B0 := Lib.hid (Cv.bef_one k)
      go_wp2
      go_loop [8, 10] (fun n i => ∃ j : Int, 1 ≤ j ∧ j ≤ m ∧ i = .int .i64 j ∧ n = .int .i64 (d + Cv.bef k j)) (fun _ i => (m - intOf i).toNat)
      case atStart => exact ⟨1, by omega, by omega, rfl, by rw [B0.out]⟩
      case round =>
        obtain ⟨j, j1, j2, rfl, rfl⟩ := hrel
        obtain ⟨c1, c2⟩ := Cv.bef_bd k j k1 (by omega) j1 (by omega)
        obtain ⟨q1, q2⟩ := Cv.lng_bd k j
        by_cases hj : j < m
        · have S := Lib.hid (Cv.bef_next k j j1 (by omega))
          go_wp2_with (go_at_call 29; refine (long_any _ _ _).mono ?_; rintro e w' ⟨rfl, rfl⟩)
          go_round
          case rel => exact ⟨j + 1, by omega, by omega, rfl, by rw [S.out]; go_num⟩
          case measure => simp [intOf]; omega
        · obtain rfl : j = m := by omega
          go_wp2
          go_ret2
          exact ⟨ret_two (by omega) rfl, rfl⟩
theorem day_any (y m d : Int) (w : World) : Calls Tryd.prog 27 #[.int .i64 y, .int .i64 m, .int .i64 d] w fun e w' => e = .returned (.tuple #[.int .i64 (Cv.dayV y m d), .int .i64 (Cv.dayE y m d)]) ∧ w = w' := by
  cases h : Cv.dayOk y m d
  · have e1 : Cv.dayV y m d = 0 := by simp [Cv.dayV, h]
    have e2 : Cv.dayE y m d = 2 := by simp [Cv.dayE, h]
    rw [e1, e2]; exact day_no y m d w h
  · have e1 : Cv.dayV y m d = Cv.bef y m + d := by simp [Cv.dayV, h]
    have e2 : Cv.dayE y m d = 0 := by simp [Cv.dayE, h]
    obtain ⟨⟨a, b, c, f⟩, g, i⟩ := Cv.dayOk_t h
    rw [e1, e2]; exact day_yes y m d w a b c f g i
theorem days_any (M : Int) (w : World) : Calls Tryd.prog 20 #[.int .i64 M] w fun e w' => e = .returned (.tuple #[.int .i64 (Cv.fstV M), .int .i64 (Cv.lstV M), .int .i64 (Cv.mE M)]) ∧ w = w' := by
  cases h : Cv.okM M
  · have e1 : 0 = Cv.fstV M := by simp [Cv.fstV, h]
    have e2 : 0 = Cv.lstV M := by simp [Cv.lstV, h]
    have e3 : 2 = Cv.mE M := by simp [Cv.mE, h]
    have h' := Cv.okM_f h
    have E := Lib.hid (And.intro e1 (And.intro e2 e3))
    clear e1 e2 e3 h
    rcases h' with h' | h'
    · go_enter Tryd.func20, Tryd.ntmps20
      go_wp2
      go_ret3
      exact ⟨ret_three E.out.1 E.out.2.1 E.out.2.2, rfl⟩
    · have h1 : 1 ≤ M := by omega
      go_enter Tryd.func20, Tryd.ntmps20
      go_wp2
      go_ret3
      exact ⟨ret_three E.out.1 E.out.2.1 E.out.2.2, rfl⟩
  · have e1 : Cv.fst M = Cv.fstV M := by simp [Cv.fstV, h]
    have e2 : Cv.fst (M + 1) - 1 = Cv.lstV M := by simp [Cv.lstV, h]
    have e3 : 0 = Cv.mE M := by simp [Cv.mE, h]
    obtain ⟨h1, h2⟩ := Cv.okM_t h
    have es := Cv.fst_succ h1 h2
    obtain ⟨y1, y2⟩ := Cv.yr_bd h1 h2
    obtain ⟨m1, m2⟩ := Cv.mo_bd M
    have y0 : Cv.yr M = (M + 11) / 12 := by unfold Cv.yr; omega
    have m0 : Cv.mo M = (M + 11) % 12 + 1 := by unfold Cv.mo; omega
    have ef : Cv.fst M = Cv.bef (Cv.yr M) (Cv.mo M) + 1 := rfl
    obtain ⟨b1, b2⟩ := Cv.bef_bd (Cv.yr M) (Cv.mo M) y1 (by omega) m1 m2
    obtain ⟨l1, l2⟩ := Cv.lng_bd (Cv.yr M) (Cv.mo M)
    rw [y0, m0] at b1 b2 l1 l2 ef es
    have f1 : Cv.bef ((M + 11) / 12) ((M + 11) % 12 + 1) + 1 = Cv.fstV M := by omega
    have f2 : Cv.bef ((M + 11) / 12) ((M + 11) % 12 + 1) + 1 + Cv.lng ((M + 11) / 12) ((M + 11) % 12 + 1) - 1 = Cv.lstV M := by omega
    have E := Lib.hid (And.intro f1 (And.intro f2 e3))
    clear e1 e2 e3 h f1 f2 ef es y0 m0 y1 y2 m1 m2
    go_enter Tryd.func20, Tryd.ntmps20
    go_wp2_with (first | (go_at_call 27; refine (day_yes _ _ _ _ (by omega) (by omega) (by omega) (by omega) (by omega) (by omega)).mono ?_; rintro e w' ⟨rfl, rfl⟩) | (go_at_call 29; refine (long_any _ _ _).mono ?_; rintro e w' ⟨rfl, rfl⟩))
    go_ret3
    exact ⟨ret_three E.out.1 E.out.2.1 E.out.2.2, rfl⟩
end Go.Proofs.YtpegaabcelkmmaaDoor.ref08
