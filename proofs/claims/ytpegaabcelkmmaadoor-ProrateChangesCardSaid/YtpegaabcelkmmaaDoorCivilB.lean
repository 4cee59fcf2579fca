/- What civil.Of, Day and Date answer (walks). The table of the days ahead of months holds its numbers. -/
import Derived.Test.YtpegaabcelkmmaaDoorCivilA
import Derived.LoopTactic
import Derived.Tactics
import Derived.Outline
import Derived.Deep.LoopGhost
namespace Go.Proofs.YtpegaabcelkmmaaDoor.civ
open Go.RowKit

theorem of_no (d : Int) (w : World) (h : Cv.okD d = false) : Calls Tryd.prog 39 #[.int .i64 d] w fun e w' => e = .returned (.tuple #[.int .i64 0, .int .i64 2]) ∧ w = w' := by
  have h' := Cv.okD_f h
  clear h
  rcases h' with h' | h'
  · go_enter Tryd.func39, Tryd.ntmps39
    go_wp2
    go_step3
    go_wp2
    rw [Exit.noGoto_ret]
    go_ret2
    exact ⟨rfl, rfl⟩
  · have h1 : 1 ≤ d := by omega
    go_enter Tryd.func39, Tryd.ntmps39
    go_wp2
    go_step3
    go_wp2
    rw [Exit.noGoto_ret]
    go_ret2
    exact ⟨rfl, rfl⟩
theorem of_yes (d : Int) (w : World) (T : Tab w) (h1 : 1 ≤ d) (h2 : d ≤ 3652059) : Calls Tryd.prog 39 #[.int .i64 d] w fun e w' => e = .returned (.tuple #[.int .i64 (Cv.ofD d), .int .i64 0]) ∧ w = w' := by
  have TT := Lib.hid T
  clear T
  go_enter Tryd.func39, Tryd.ntmps39
  go_wp2
  go_step3
  go_wp2
  go_step3
  go_wp2
  go_loop [4, 5] (fun a b => ∃ lo hi : Int, a = .int .i64 lo ∧ b = .int .i64 hi ∧ 1 ≤ lo ∧ lo ≤ hi ∧ hi ≤ 119988 ∧ Cv.fst lo ≤ d ∧ d < Cv.fst (hi + 1)) (fun a b => (intOf b - intOf a).toNat)
  case atStart => exact ⟨1, 119988, rfl, rfl, by omega, by omega, by omega, by rw [Cv.fst_one]; omega, by have := Cv.fst_top; show d < Cv.fst 119989; omega⟩
  case round =>
    obtain ⟨lo, hi, rfl, rfl, l1, l2, l3, f1, f2⟩ := hrel
    by_cases he : lo = hi
    · subst he
      have F := Lib.hid (And.intro f1 f2)
      clear f1 f2
      go_wp2
      go_ret2
      exact ⟨ret_two (Cv.ofD_eq l1 (by omega) F.out.1 F.out.2).symm rfl, rfl⟩
    · have hb : (lo == hi) = false := by simpa using he
      have m1 : 1 ≤ (lo + hi + 1) / 2 := by omega
      have m2 : (lo + hi + 1) / 2 ≤ 119988 := by omega
      have m3 : lo < (lo + hi + 1) / 2 := by omega
      have m4 : (lo + hi + 1) / 2 ≤ hi := by omega
      have e1 : Cv.fstV ((lo + hi + 1) / 2) = Cv.fst ((lo + hi + 1) / 2) := by simp [Cv.fstV, Cv.okM_mk m1 m2]
      have F := Lib.hid (And.intro f1 f2)
      have E1 := Lib.hid e1
      clear he f1 f2 e1
      by_cases hc : Cv.fst ((lo + hi + 1) / 2) ≤ d
      · have hc' : Cv.fstV ((lo + hi + 1) / 2) ≤ d := by rw [E1.out]; exact hc
        clear hc
        go_wp2_with (go_at_call 40; refine (days_any _ _ TT.out).mono ?_; rintro e w' ⟨rfl, rfl⟩)
        go_round
        case rel => exact ⟨_, _, rfl, rfl, by omega, by omega, by omega, by rw [← E1.out]; exact hc', F.out.2⟩
        case measure => simp [intOf]; omega
      · have hc' : ¬ Cv.fstV ((lo + hi + 1) / 2) ≤ d := by rw [E1.out]; exact hc
        clear hc
        go_wp2_with (go_at_call 40; refine (days_any _ _ TT.out).mono ?_; rintro e w' ⟨rfl, rfl⟩)
        go_round
        case rel =>
          have e : (lo + hi + 1) / 2 - 1 + 1 = (lo + hi + 1) / 2 := by omega
          exact ⟨_, _, rfl, rfl, by omega, by omega, by omega, F.out.1, by rw [e, ← E1.out]; omega⟩
        case measure => simp [intOf]; omega
theorem of_any (d : Int) (w : World) (T : Tab w) : Calls Tryd.prog 39 #[.int .i64 d] w fun e w' => e = .returned (.tuple #[.int .i64 (Cv.ofV d), .int .i64 (Cv.dE d)]) ∧ w = w' := by
  cases h : Cv.okD d
  · have e1 : Cv.ofV d = 0 := by simp [Cv.ofV, h]
    have e2 : Cv.dE d = 2 := by simp [Cv.dE, h]
    rw [e1, e2]; exact of_no d w h
  · have e1 : Cv.ofV d = Cv.ofD d := by simp [Cv.ofV, h]
    have e2 : Cv.dE d = 0 := by simp [Cv.dE, h]
    rw [e1, e2]; exact of_yes d w T (Cv.okD_t h).1 (Cv.okD_t h).2

theorem ret_four {k l m n : IntKind} {a b c d e f g h : Int} (h1 : a = b) (h2 : c = d) (h3 : e = f) (h4 : g = h) : Ending.returned (.tuple #[.int k a, .int l c, .int m e, .int n g]) = .returned (.tuple #[.int k b, .int l d, .int m f, .int n h]) := by rw [h1, h2, h3, h4]
end Go.Proofs.YtpegaabcelkmmaaDoor.civ
