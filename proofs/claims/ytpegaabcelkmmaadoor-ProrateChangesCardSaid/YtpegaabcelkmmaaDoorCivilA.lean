/- What the functions of package civil answer (walks). The table of the days ahead of months holds its numbers. -/
import Derived.Test.YtpegaabcelkmmaaDoorProg
import Derived.Test.YtpegaabcelkmmaaDoorCivilMath
import Derived.WalkKit
import Derived.OwnWalk
import Derived.IntWalk
import Derived.Lib.Hide
namespace Go.Proofs.YtpegaabcelkmmaaDoor.civ
open Go.RowKit

/-- The table holds its numbers. -/
def Tab (w : World) : Prop := ∀ i, i < 13 → w.cell? ⟨2, i, none⟩ = some (.int .i64 (Cv.ahL.getD i 0))
theorem ret_int {k : IntKind} {a b : Int} (h : a = b) : Ending.returned (.int k a) = .returned (.int k b) := by rw [h]
theorem ret_bool {a b : Bool} (h : a = b) : Ending.returned (.bool a) = .returned (.bool b) := by rw [h]
theorem ret_two {k l : IntKind} {a b c d : Int} (h : a = b) (g : c = d) : Ending.returned (.tuple #[.int k a, .int l c]) = .returned (.tuple #[.int k b, .int l d]) := by rw [h, g]
theorem ret_three {k l m : IntKind} {a b c d e f : Int} (h : a = b) (g : c = d) (i : e = f) : Ending.returned (.tuple #[.int k a, .int l c, .int m e]) = .returned (.tuple #[.int k b, .int l d, .int m f]) := by rw [h, g, i]

theorem leap_any (y : Int) (w : World) : Calls Tryd.prog 57 #[.int .i64 y] w fun e w' => e = .returned (.bool (Cv.lp y)) ∧ w = w' := by
  by_cases h1 : 1 ≤ y
  · by_cases h2 : y ≤ 9999
    · go_enter Tryd.func57, Tryd.ntmps57
      go_wp2
      all_goals go_ret
      · exact ⟨ret_bool (Cv.lp_a h1 h2 ‹_› ‹_›), rfl⟩
      · exact ⟨ret_bool (Cv.lp_b h1 h2 ‹_› ‹_›), rfl⟩
      · exact ⟨ret_bool (Cv.lp_c ‹_›), rfl⟩
    · go_enter Tryd.func57, Tryd.ntmps57
      go_wp2
      go_ret
      exact ⟨ret_bool (Cv.lp_e (by omega)), rfl⟩
  · go_enter Tryd.func57, Tryd.ntmps57
    go_wp2
    go_ret
    exact ⟨ret_bool (Cv.lp_d (by omega)), rfl⟩
theorem leap_t (y : Int) (w : World) (h : Cv.lp y = true) : Calls Tryd.prog 57 #[.int .i64 y] w fun e w' => e = .returned (.bool true) ∧ w = w' :=
  (leap_any y w).mono fun _ _ ⟨a, b⟩ => ⟨by rw [a, h], b⟩
theorem leap_f (y : Int) (w : World) (h : Cv.lp y = false) : Calls Tryd.prog 57 #[.int .i64 y] w fun e w' => e = .returned (.bool false) ∧ w = w' :=
  (leap_any y w).mono fun _ _ ⟨a, b⟩ => ⟨by rw [a, h], b⟩

theorem before_any (y m : Int) (w : World) (T : Tab w) (h1 : 1 ≤ y) (h2 : y ≤ 10000) (h3 : 1 ≤ m) (h4 : m ≤ 12) :
    Calls Tryd.prog 52 #[.int .i64 y, .int .i64 m] w fun e w' => e = .returned (.int .i64 (Cv.bef y m)) ∧ w = w' := by
  have hc := T (m.toNat - 1) (by omega)
  rw [Cv.ah_at h3 (by omega)] at hc
  obtain ⟨b0, b1⟩ := Cv.ah_bd (m - 1) (by omega) (by omega)
  obtain ⟨d0, d1⟩ := Cv.dby_flat h1 h2
  clear T
  by_cases h5 : 2 < m
  · cases hl : Cv.lp y
    · have HL := Lib.hid hl
      clear hl
      go_enter Tryd.func52, Tryd.ntmps52
      go_wp2_with (go_at_call 57; refine (leap_f _ _ HL.out).mono ?_; rintro e w' ⟨rfl, rfl⟩)
      go_ret
      exact ⟨ret_int (Cv.bef_b (by rw [HL.out]; simp)), rfl⟩
    · have HL := Lib.hid hl
      clear hl
      go_enter Tryd.func52, Tryd.ntmps52
      go_wp2_with (go_at_call 57; refine (leap_t _ _ HL.out).mono ?_; rintro e w' ⟨rfl, rfl⟩)
      go_ret
      exact ⟨ret_int (Cv.bef_a h5 HL.out), rfl⟩
  · go_enter Tryd.func52, Tryd.ntmps52
    go_wp2
    go_ret
    exact ⟨ret_int (Cv.bef_b (by omega)), rfl⟩

theorem parts_any (M : Int) (w : World) (h1 : 1 ≤ M) (h2 : M ≤ 119989) : Calls Tryd.prog 53 #[.int .i64 M] w fun e w' => e = .returned (.tuple #[.int .i64 (Cv.yr M), .int .i64 (Cv.mo M)]) ∧ w = w' := by
  go_enter Tryd.func53, Tryd.ntmps53
  go_wp2
  go_ret2
  exact ⟨rfl, rfl⟩
theorem days_any (M : Int) (w : World) (T : Tab w) : Calls Tryd.prog 40 #[.int .i64 M] w fun e w' => e = .returned (.tuple #[.int .i64 (Cv.fstV M), .int .i64 (Cv.lstV M), .int .i64 (Cv.mE M)]) ∧ w = w' := by
  cases h : Cv.okM M
  · have e1 : 0 = Cv.fstV M := by simp [Cv.fstV, h]
    have e2 : 0 = Cv.lstV M := by simp [Cv.lstV, h]
    have e3 : 2 = Cv.mE M := by simp [Cv.mE, h]
    have h' := Cv.okM_f h
    have E1 := Lib.hid e1
    have E2 := Lib.hid e2
    have E3 := Lib.hid e3
    clear e1 e2 e3 h T
    rcases h' with h' | h'
    · go_enter Tryd.func40, Tryd.ntmps40
      go_wp2
      go_ret3
      exact ⟨ret_three E1.out E2.out E3.out, rfl⟩
    · have h1 : 1 ≤ M := by omega
      go_enter Tryd.func40, Tryd.ntmps40
      go_wp2
      go_ret3
      exact ⟨ret_three E1.out E2.out E3.out, rfl⟩
  · have e1 : Cv.fst M = Cv.fstV M := by simp [Cv.fstV, h]
    have e2 : Cv.fst (M + 1) - 1 = Cv.lstV M := by simp [Cv.lstV, h]
    have e3 : 0 = Cv.mE M := by simp [Cv.mE, h]
    obtain ⟨h1, h2⟩ := Cv.okM_t h
    have E1 := Lib.hid e1
    have E2 := Lib.hid e2
    have E3 := Lib.hid e3
    obtain ⟨y1, y2⟩ := Cv.yr_bd h1 h2
    obtain ⟨m1, m2⟩ := Cv.mo_bd M
    obtain ⟨b1, b2⟩ := Cv.bef_bd (Cv.yr M) (Cv.mo M) y1 (by omega) m1 m2
    have TT := Lib.hid T
    clear e1 e2 e3 h T
    by_cases he : M = 119988
    · have HE := Lib.hid he
      have hb : (M == 119988) = true := by rw [he]; rfl
      clear he
      go_enter Tryd.func40, Tryd.ntmps40
      go_wp2_with (first | (go_at_call 53; refine (parts_any _ _ h1 (by omega)).mono ?_; rintro e w' ⟨rfl, rfl⟩) | (go_at_call 52; refine (before_any _ _ _ TT.out y1 (by omega) m1 m2).mono ?_; rintro e w' ⟨rfl, rfl⟩))
      go_ret3
      exact ⟨ret_three E1.out (by rw [← E2.out, HE.out]; decide) E3.out, rfl⟩
    · have hb : (M == 119988) = false := by simpa using he
      have h3 : M + 1 ≤ 119988 := by omega
      obtain ⟨z1, z2⟩ := Cv.yr_bd (M := M + 1) (by omega) h3
      obtain ⟨n1, n2⟩ := Cv.mo_bd (M + 1)
      obtain ⟨c1, c2⟩ := Cv.bef_bd (Cv.yr (M + 1)) (Cv.mo (M + 1)) z1 (by omega) n1 n2
      clear he
      go_enter Tryd.func40, Tryd.ntmps40
      go_wp2_with (first | (go_at_call 53; refine (parts_any _ _ (by omega) (by omega)).mono ?_; rintro e w' ⟨rfl, rfl⟩) | (go_at_call 52; refine (before_any _ _ _ TT.out (by omega) (by omega) (by omega) (by omega)).mono ?_; rintro e w' ⟨rfl, rfl⟩))
      go_ret3
      exact ⟨ret_three E1.out (by rw [← E2.out]; unfold Cv.fst; omega) E3.out, rfl⟩
end Go.Proofs.YtpegaabcelkmmaaDoor.civ
