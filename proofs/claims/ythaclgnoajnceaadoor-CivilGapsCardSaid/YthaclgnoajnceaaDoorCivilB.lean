/- What civil.Of, Day and Date answer (walks). The table of the days ahead of months holds its numbers. -/
import Derived.Test.YthaclgnoajnceaaDoorCivilA
import Derived.LoopTactic
import Derived.Tactics
import Derived.Outline
import Derived.Deep.LoopGhost
namespace Go.Proofs.YthaclgnoajnceaaDoor.civ
open Go.RowKit

theorem of_no (d : Int) (w : World) (h : Cv.okD d = false) : Calls Tryd.prog 16 #[.int .i64 d] w fun e w' => e = .returned (.tuple #[.int .i64 0, .int .i64 2]) ∧ w = w' := by
  have h' := Cv.okD_f h
  clear h
  rcases h' with h' | h'
  · go_enter Tryd.func16, Tryd.ntmps16
    go_wp2
    go_step3
    go_wp2
    rw [Exit.noGoto_ret]
    go_ret2
    exact ⟨rfl, rfl⟩
  · have h1 : 1 ≤ d := by omega
    go_enter Tryd.func16, Tryd.ntmps16
    go_wp2
    go_step3
    go_wp2
    rw [Exit.noGoto_ret]
    go_ret2
    exact ⟨rfl, rfl⟩
theorem of_yes (d : Int) (w : World) (T : Tab w) (h1 : 1 ≤ d) (h2 : d ≤ 3652059) : Calls Tryd.prog 16 #[.int .i64 d] w fun e w' => e = .returned (.tuple #[.int .i64 (Cv.ofD d), .int .i64 0]) ∧ w = w' := by
  have TT := Lib.hid T
  clear T
  go_enter Tryd.func16, Tryd.ntmps16
  go_wp2
  go_step3
  go_wp2
  go_step3
  go_wp2
  go_loop [4, 5] (fun a b => ∃ lo hi : Int, a = .int .i64 lo ∧ b = .int .i64 hi ∧ 1 ≤ lo ∧ lo ≤ hi ∧ hi ≤ 119988 ∧ Cv.fst lo ≤ d ∧ d < Cv.fst (hi + 1)) (fun a b => (intOf b - intOf a).toNat)
  case atStart => exact ⟨1, 119988, rfl, rfl, by omega, by omega, by omega, by rw [Cv.fst_one]; omega, by have := Cv.fst_top; show d < Cv.fst 119989; omega⟩
  case round =>
    obtain ⟨lo, hi, rfl, rfl, l1, l2, l3, f1, f2⟩ := hrel
    by_cases he : lo = hi
    · subst he
      have F := Lib.hid (And.intro f1 f2)
      clear f1 f2
      go_wp2
      go_ret2
      exact ⟨ret_two (Cv.ofD_eq l1 (by omega) F.out.1 F.out.2).symm rfl, rfl⟩
    · have hb : (lo == hi) = false := by simpa using he
      have m1 : 1 ≤ (lo + hi + 1) / 2 := by omega
      have m2 : (lo + hi + 1) / 2 ≤ 119988 := by omega
      have m3 : lo < (lo + hi + 1) / 2 := by omega
      have m4 : (lo + hi + 1) / 2 ≤ hi := by omega
      have e1 : Cv.fstV ((lo + hi + 1) / 2) = Cv.fst ((lo + hi + 1) / 2) := by simp [Cv.fstV, Cv.okM_mk m1 m2]
      have F := Lib.hid (And.intro f1 f2)
      have E1 := Lib.hid e1
      clear he f1 f2 e1
      by_cases hc : Cv.fst ((lo + hi + 1) / 2) ≤ d
      · have hc' : Cv.fstV ((lo + hi + 1) / 2) ≤ d := by rw [E1.out]; exact hc
        clear hc
        go_wp2_with (go_at_call 20; refine (days_any _ _ TT.out).mono ?_; rintro e w' ⟨rfl, rfl⟩)
        go_round
        case rel => exact ⟨_, _, rfl, rfl, by omega, by omega, by omega, by rw [← E1.out]; exact hc', F.out.2⟩
        case measure => simp [intOf]; omega
      · have hc' : ¬ Cv.fstV ((lo + hi + 1) / 2) ≤ d := by rw [E1.out]; exact hc
        clear hc
        go_wp2_with (go_at_call 20; refine (days_any _ _ TT.out).mono ?_; rintro e w' ⟨rfl, rfl⟩)
        go_round
        case rel =>
          have e : (lo + hi + 1) / 2 - 1 + 1 = (lo + hi + 1) / 2 := by omega
          exact ⟨_, _, rfl, rfl, by omega, by omega, by omega, F.out.1, by rw [e, ← E1.out]; omega⟩
        case measure => simp [intOf]; omega
theorem of_any (d : Int) (w : World) (T : Tab w) : Calls Tryd.prog 16 #[.int .i64 d] w fun e w' => e = .returned (.tuple #[.int .i64 (Cv.ofV d), .int .i64 (Cv.dE d)]) ∧ w = w' := by
  cases h : Cv.okD d
  · have e1 : Cv.ofV d = 0 := by simp [Cv.ofV, h]
    have e2 : Cv.dE d = 2 := by simp [Cv.dE, h]
    rw [e1, e2]; exact of_no d w h
  · have e1 : Cv.ofV d = Cv.ofD d := by simp [Cv.ofV, h]
    have e2 : Cv.dE d = 0 := by simp [Cv.dE, h]
    rw [e1, e2]; exact of_yes d w T (Cv.okD_t h).1 (Cv.okD_t h).2

theorem day_any (y m d : Int) (w : World) (T : Tab w) (bd : -9223372036854775808 ≤ d ∧ d ≤ 9223372036854775807) : Calls Tryd.prog 9 #[.int .i64 y, .int .i64 m, .int .i64 d] w fun e w' => e = .returned (.tuple #[.int .i64 (Cv.dayV y m d), .int .i64 (Cv.dayE y m d)]) ∧ w = w' := by
  obtain ⟨bd1, bd2⟩ := bd
  have TT := Lib.hid T
  clear T
  cases h : Cv.okYM y m
  · have ho : Cv.dayOk y m d = false := by simp [Cv.dayOk, h]
    have e1 : 0 = Cv.dayV y m d := by simp [Cv.dayV, ho]
    have e2 : 2 = Cv.dayE y m d := by simp [Cv.dayE, ho]
    have e3 : Cv.monE y m = 2 := by simp [Cv.monE, h]
    have hb : (Cv.monE y m != 0) = true := by rw [e3]; rfl
    have E := Lib.hid (And.intro e1 (And.intro e2 e3))
    clear e1 e2 e3 h ho
    go_enter Tryd.func9, Tryd.ntmps9
    go_wp2_with (first | (go_at_call 18; refine (month_any _ _ _).mono ?_; rintro e w' ⟨rfl, rfl⟩))
    go_ret2
    exact ⟨ret_two E.out.1 (E.out.2.2.trans E.out.2.1), rfl⟩
  · obtain ⟨y1, y2, m1, m2⟩ := Cv.okYM_t h
    have e3 : Cv.monE y m = 0 := by simp [Cv.monE, h]
    have hb : (Cv.monE y m != 0) = false := by rw [e3]; rfl
    have e4 : Cv.monV y m = 12 * (y - 1) + m := by simp [Cv.monV, h]
    have hM : Cv.okM (Cv.monV y m) = true := by rw [e4]; exact Cv.okM_mk (by omega) (by omega)
    have e5 : Cv.fstV (Cv.monV y m) = Cv.bef y m + 1 := by simp only [Cv.fstV, hM, if_true]; rw [e4, Cv.fst_of m1 m2]
    have e6 : Cv.lstV (Cv.monV y m) = Cv.bef y m + Cv.lng y m := by
      simp only [Cv.lstV, hM, if_true]; rw [e4]
      have := Cv.lng_fst y1 y2 m1 m2
      rw [Cv.fst_of m1 m2] at this; omega
    obtain ⟨b1, b2⟩ := Cv.bef_bd y m y1 (by omega) m1 m2
    obtain ⟨l1, l2⟩ := Cv.lng_bd y m
    have f1 : 1 ≤ Cv.fstV (Cv.monV y m) := by omega
    have f2 : Cv.fstV (Cv.monV y m) ≤ 3652426 := by omega
    have f3 : Cv.fstV (Cv.monV y m) ≤ Cv.lstV (Cv.monV y m) := by omega
    have f4 : Cv.lstV (Cv.monV y m) ≤ 3652456 := by omega
    cases ho : Cv.dayOk y m d
    · have e1 : 0 = Cv.dayV y m d := by simp [Cv.dayV, ho]
      have e2 : 2 = Cv.dayE y m d := by simp [Cv.dayE, ho]
      have E := Lib.hid (And.intro e1 e2)
      have E4 := Lib.hid e4
      by_cases d1 : 1 ≤ d
      · have d2 : Cv.lstV (Cv.monV y m) - Cv.fstV (Cv.monV y m) + 1 < d := by
          have : ¬ d ≤ Cv.lng y m := fun q => by rw [Cv.dayOk_mk h d1 q] at ho; cases ho
          omega
        clear e1 e2 e3 h ho e4 hM e5 e6
        go_enter Tryd.func9, Tryd.ntmps9
        go_wp2_with (first | (go_at_call 18; refine (month_any _ _ _).mono ?_; rintro e w' ⟨rfl, rfl⟩) | (go_at_call 20; refine (days_any _ _ TT.out).mono ?_; rintro e w' ⟨rfl, rfl⟩))
        go_ret2
        exact ⟨ret_two E.out.1 E.out.2, rfl⟩
      · clear e1 e2 e3 h ho e4 hM e5 e6
        go_enter Tryd.func9, Tryd.ntmps9
        go_wp2_with (first | (go_at_call 18; refine (month_any _ _ _).mono ?_; rintro e w' ⟨rfl, rfl⟩) | (go_at_call 20; refine (days_any _ _ TT.out).mono ?_; rintro e w' ⟨rfl, rfl⟩))
        go_ret2
        exact ⟨ret_two E.out.1 E.out.2, rfl⟩
    · obtain ⟨_, d1, d2⟩ := Cv.dayOk_t ho
      have d3 : ¬ Cv.lstV (Cv.monV y m) - Cv.fstV (Cv.monV y m) + 1 < d := by omega
      have e1 : Cv.fstV (Cv.monV y m) + d - 1 = Cv.dayV y m d := by simp only [Cv.dayV, ho, if_true]; omega
      have e2 : 0 = Cv.dayE y m d := by simp [Cv.dayE, ho]
      have E := Lib.hid (And.intro e1 e2)
      clear e1 e2 e3 h ho e4 hM e5 e6
      go_enter Tryd.func9, Tryd.ntmps9
      go_wp2_with (first | (go_at_call 18; refine (month_any _ _ _).mono ?_; rintro e w' ⟨rfl, rfl⟩) | (go_at_call 20; refine (days_any _ _ TT.out).mono ?_; rintro e w' ⟨rfl, rfl⟩))
      go_ret2
      exact ⟨ret_two E.out.1 E.out.2, rfl⟩

theorem ret_four {k l m n : IntKind} {a b c d e f g h : Int} (h1 : a = b) (h2 : c = d) (h3 : e = f) (h4 : g = h) : Ending.returned (.tuple #[.int k a, .int l c, .int m e, .int n g]) = .returned (.tuple #[.int k b, .int l d, .int m f, .int n h]) := by rw [h1, h2, h3, h4]
theorem date_any (d : Int) (w : World) (T : Tab w) : Calls Tryd.prog 14 #[.int .i64 d] w fun e w' => e = .returned (.tuple #[.int .i64 (Cv.dtY d), .int .i64 (Cv.dtM d), .int .i64 (Cv.dtD d), .int .i64 (Cv.dE d)]) ∧ w = w' := by
  have TT := Lib.hid T
  clear T
  cases h : Cv.okD d
  · have e1 : 0 = Cv.dtY d := by simp [Cv.dtY, h]
    have e2 : 0 = Cv.dtM d := by simp [Cv.dtM, h]
    have e3 : 0 = Cv.dtD d := by simp [Cv.dtD, h]
    have e4 : Cv.dE d = 2 := by simp [Cv.dE, h]
    have hb : (Cv.dE d != 0) = true := by rw [e4]; rfl
    have E := Lib.hid (And.intro e1 (And.intro e2 e3))
    clear e1 e2 e3 e4 h
    go_enter Tryd.func14, Tryd.ntmps14
    go_wp2_with (first | (go_at_call 16; refine (of_any _ _ TT.out).mono ?_; rintro e w' ⟨rfl, rfl⟩))
    exact bodyPost_ret (v := .tuple #[.int .i64 0, .int .i64 0, .int .i64 0, .int .i64 (Cv.dE d)]) (by simp [results, Tryd.results14, go_sem]) rfl ⟨ret_four E.out.1 E.out.2.1 E.out.2.2 rfl, rfl⟩
  · obtain ⟨d1, d2⟩ := Cv.okD_t h
    obtain ⟨M1, M2, F1, F2⟩ := Cv.ofD_spec d1 d2
    have e0 : Cv.ofV d = Cv.ofD d := by simp [Cv.ofV, h]
    have e1 : Cv.yr (Cv.ofV d) = Cv.dtY d := by simp [Cv.dtY, Cv.ofV, h]
    have e2 : Cv.mo (Cv.ofV d) = Cv.dtM d := by simp [Cv.dtM, Cv.ofV, h]
    have e5 : Cv.fstV (Cv.ofV d) = Cv.fst (Cv.ofD d) := by rw [e0]; simp [Cv.fstV, Cv.okM_mk M1 M2]
    have e3 : d - Cv.fstV (Cv.ofV d) + 1 = Cv.dtD d := by rw [e5]; simp [Cv.dtD, h]
    have e4 : Cv.dE d = 0 := by simp [Cv.dE, h]
    have hb : (Cv.dE d != 0) = false := by rw [e4]; rfl
    have a1 : 1 ≤ Cv.ofV d := by omega
    have a2 : Cv.ofV d ≤ 119988 := by omega
    have f0 := Cv.fst_bd M1 (by omega)
    have f1 : 1 ≤ Cv.fstV (Cv.ofV d) := by omega
    have f2 : Cv.fstV (Cv.ofV d) ≤ d := by omega
    have E := Lib.hid (And.intro e1 (And.intro e2 (And.intro e3 e4)))
    clear e0 e1 e2 e3 e4 e5 h M1 M2 F1 F2 f0
    go_enter Tryd.func14, Tryd.ntmps14
    go_wp2_with (first | (go_at_call 16; refine (of_any _ _ TT.out).mono ?_; rintro e w' ⟨rfl, rfl⟩) | (go_at_call 24; refine (parts_any _ _ (by omega) (by omega)).mono ?_; rintro e w' ⟨rfl, rfl⟩) | (go_at_call 20; refine (days_any _ _ TT.out).mono ?_; rintro e w' ⟨rfl, rfl⟩))
    exact bodyPost_ret (v := .tuple #[.int .i64 (Cv.yr (Cv.ofV d)), .int .i64 (Cv.mo (Cv.ofV d)), .int .i64 (d - Cv.fstV (Cv.ofV d) + 1), .int .i64 0]) (by simp [results, Tryd.results14, go_sem]) rfl ⟨ret_four E.out.1 E.out.2.1 E.out.2.2.1 E.out.2.2.2.symm, rfl⟩
end Go.Proofs.YthaclgnoajnceaaDoor.civ
