/- What quittanceref08.Date and Of answer (walks): the same as package civil's. No conditions but that numbers are of 64 bits. -/
import Derived.Test.YtpegaabcelkmmaaDoorRef08
namespace Go.Proofs.YtpegaabcelkmmaaDoor.ref08
open Go.RowKit Go.Proofs.YtpegaabcelkmmaaDoor.civ

theorem date_no (d : Int) (w : World) (h : Cv.okD d = false) : Calls Tryd.prog 34 #[.int .i64 d] w fun e w' => e = .returned (.tuple #[.int .i64 0, .int .i64 0, .int .i64 0, .int .i64 2]) ∧ w = w' := by
  have h' := Cv.okD_f h
  clear h
  rcases h' with h' | h'
  · go_enter Tryd.func34, Tryd.ntmps34
    go_wp2
    exact bodyPost_ret (v := .tuple #[.int .i64 0, .int .i64 0, .int .i64 0, .int .i64 2]) (by simp [results, Tryd.results34, go_sem]) rfl ⟨rfl, rfl⟩
  · have h1 : 1 ≤ d := by omega
    go_enter Tryd.func34, Tryd.ntmps34
    go_wp2
    exact bodyPost_ret (v := .tuple #[.int .i64 0, .int .i64 0, .int .i64 0, .int .i64 2]) (by simp [results, Tryd.results34, go_sem]) rfl ⟨rfl, rfl⟩
theorem date_yes (d : Int) (w : World) (h1 : 1 ≤ d) (h2 : d ≤ 3652059) : Calls Tryd.prog 34 #[.int .i64 d] w fun e w' => e = .returned (.tuple #[.int .i64 (Cv.dtY d), .int .i64 (Cv.dtM d), .int .i64 (Cv.dtD d), .int .i64 0]) ∧ w = w' := by
  have S0 := Lib.hid (Cv.dby_start d)
  go_enter Tryd.func34, Tryd.ntmps34
  go_wp2
  go_loop [0, 6] (fun r i => ∃ k q : Int, 1 ≤ k ∧ k ≤ 9999 ∧ 1 ≤ q ∧ q + Cv.dby k = d ∧ i = .int .i64 k ∧ r = .int .i64 q) (fun _ i => (10000 - intOf i).toNat)
  case atStart => exact ⟨_, _, by omega, by omega, by omega, S0.out, rfl, rfl⟩
  case round =>
    obtain ⟨k, q, k1, k2, q1, hq, rfl, rfl⟩ := hrel
    obtain ⟨b1, b2⟩ := Cv.dby_bd k k1 (by omega)
    obtain ⟨p1, p2⟩ := Cv.lpI_01 k
    have q2 : q ≤ 3652059 := by omega
    have hs := Cv.dby_succ k k1 k2
    by_cases hk : 365 + Cv.lpI k < q
    · have k3 : k + 1 ≤ 9999 := by
        have : Cv.dby (9999 + 1) = 3652059 := Cv.dby_top
        by_cases e : k = 9999
        · exfalso; subst e; omega
        · omega
      have HQ := Lib.hid (And.intro hq hs)
      clear hq hs
      go_wp2_with (go_at_call 37; refine (year_any _ _).mono ?_; rintro e w' ⟨rfl, rfl⟩)
      go_round
      case rel => exact ⟨k + 1, q - (365 + Cv.lpI k), by omega, by omega, by omega, by rw [HQ.out.2]; have := HQ.out.1; omega, rfl, rfl⟩
      case measure => simp [intOf]; omega
    · have hd : d ≤ Cv.dby (k + 1) := by omega
      have HQ := Lib.hid (And.intro hq (And.intro hs hd))
      have B0 := Lib.hid (Cv.bef_one k)
      have Bt := Lib.hid (Cv.bef_top k k1 k2)
      clear hq hs
      go_wp2_with (go_at_call 37; refine (year_any _ _).mono ?_; rintro e w' ⟨rfl, rfl⟩)
      go_loop [0, 7] (fun r i => ∃ j s : Int, 1 ≤ j ∧ j ≤ 12 ∧ 1 ≤ s ∧ s + Cv.bef k j = d ∧ i = .int .i64 j ∧ r = .int .i64 s) (fun _ i => (12 - intOf i).toNat)
      case atStart => exact ⟨1, q, by omega, by omega, by omega, by rw [B0.out]; exact HQ.out.1, rfl, rfl⟩
      case round =>
        obtain ⟨j, s, j1, j2, s1, hs, rfl, rfl⟩ := hrel
        obtain ⟨c1, c2⟩ := Cv.bef_bd k j k1 (by omega) j1 j2
        obtain ⟨l1, l2⟩ := Cv.lng_bd k j
        have s2 : s ≤ 3652059 := by omega
        by_cases hj : Cv.lng k j < s
        · have j3 : j + 1 ≤ 12 := by
            by_cases e : j = 12
            · exfalso; subst e; have := Bt.out; omega
            · omega
          have HS := Lib.hid (And.intro hs (Cv.bef_next k j j1 (by omega)))
          clear hs
          go_wp2_with (go_at_call 29; refine (long_any _ _ _).mono ?_; rintro e w' ⟨rfl, rfl⟩)
          go_round
          case rel => exact ⟨j + 1, s - Cv.lng k j, by omega, by omega, by omega, by rw [HS.out.2]; have := HS.out.1; omega, rfl, rfl⟩
          case measure => simp [intOf]; omega
        · have E := Lib.hid (Cv.dt_of k1 k2 j1 j2 s1 (by omega) hs)
          clear hs
          go_wp2_with (go_at_call 29; refine (long_any _ _ _).mono ?_; rintro e w' ⟨rfl, rfl⟩)
          exact bodyPost_ret (v := .tuple #[.int .i64 k, .int .i64 j, .int .i64 s, .int .i64 0]) (by simp [results, Tryd.results34, go_sem]) rfl ⟨ret_four E.out.2.2.1.symm E.out.2.2.2.1.symm E.out.2.2.2.2.symm rfl, rfl⟩
theorem date_any (d : Int) (w : World) : Calls Tryd.prog 34 #[.int .i64 d] w fun e w' => e = .returned (.tuple #[.int .i64 (Cv.dtY d), .int .i64 (Cv.dtM d), .int .i64 (Cv.dtD d), .int .i64 (Cv.dE d)]) ∧ w = w' := by
  cases h : Cv.okD d
  · have e1 : Cv.dtY d = 0 := by simp [Cv.dtY, h]
    have e2 : Cv.dtM d = 0 := by simp [Cv.dtM, h]
    have e3 : Cv.dtD d = 0 := by simp [Cv.dtD, h]
    have e4 : Cv.dE d = 2 := by simp [Cv.dE, h]
    rw [e1, e2, e3, e4]; exact date_no d w h
  · have e4 : Cv.dE d = 0 := by simp [Cv.dE, h]
    rw [e4]; exact date_yes d w (Cv.okD_t h).1 (Cv.okD_t h).2
theorem of_any (d : Int) (w : World) : Calls Tryd.prog 21 #[.int .i64 d] w fun e w' => e = .returned (.tuple #[.int .i64 (Cv.ofV d), .int .i64 (Cv.dE d)]) ∧ w = w' := by
  cases h : Cv.okD d
  · have e1 : 0 = Cv.ofV d := by simp [Cv.ofV, h]
    have e4 : Cv.dE d = 2 := by simp [Cv.dE, h]
    have hb : (Cv.dE d != 0) = true := by rw [e4]; rfl
    have E := Lib.hid (And.intro e1 e4)
    clear e1 e4 h
    go_enter Tryd.func21, Tryd.ntmps21
    go_wp2_with (go_at_call 34; refine (date_any _ _).mono ?_; rintro e w' ⟨rfl, rfl⟩)
    go_ret2
    exact ⟨ret_two E.out.1 rfl, rfl⟩
  · obtain ⟨d1, d2⟩ := Cv.okD_t h
    obtain ⟨M1, M2, F1, F2⟩ := Cv.ofD_spec d1 d2
    have hb : (Cv.dE d != 0) = false := by simp [Cv.dE, h]
    have ey : Cv.dtY d = Cv.yr (Cv.ofD d) := by simp [Cv.dtY, h]
    have em : Cv.dtM d = Cv.mo (Cv.ofD d) := by simp [Cv.dtM, h]
    obtain ⟨y1, y2⟩ := Cv.yr_bd M1 M2
    obtain ⟨m1, m2⟩ := Cv.mo_bd (Cv.ofD d)
    have ok : Cv.okYM (Cv.dtY d) (Cv.dtM d) = true := by rw [ey, em]; exact Cv.okYM_mk y1 y2 m1 m2
    have e1 : Cv.monV (Cv.dtY d) (Cv.dtM d) = Cv.ofV d := by
      simp only [Cv.monV, ok, if_true, Cv.ofV, h]; rw [ey, em]; exact Cv.yrmo _
    have e2 : Cv.monE (Cv.dtY d) (Cv.dtM d) = Cv.dE d := by simp [Cv.monE, ok, Cv.dE, h]
    have E := Lib.hid (And.intro e1 e2)
    clear e1 e2 h ey em ok M1 M2 F1 F2 y1 y2 m1 m2
    go_enter Tryd.func21, Tryd.ntmps21
    go_wp2_with (first | (go_at_call 34; refine (date_any _ _).mono ?_; rintro e w' ⟨rfl, rfl⟩) | (go_at_call 35; refine (month_any _ _ _).mono ?_; rintro e w' ⟨rfl, rfl⟩))
    go_ret2
    exact ⟨ret_two E.out.1 E.out.2, rfl⟩
end Go.Proofs.YtpegaabcelkmmaaDoor.ref08
