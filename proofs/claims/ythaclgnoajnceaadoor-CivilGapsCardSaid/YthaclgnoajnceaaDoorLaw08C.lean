/- The statements CivilGaps and CivilOrder of chapter 08, walked: each answers true. The table of the days ahead of months holds its numbers. -/
import Derived.Test.YthaclgnoajnceaaDoorLaw08B
import Derived.Laws.StructEq
import Derived.Deep.RegionHeld
import Derived.Below
namespace Go.Proofs.YthaclgnoajnceaaDoor.civ
theorem Tab.alloc {w : World} (T : Tab w) (o : Obj) : Tab (w.alloc o) := fun i hi =>
  (World.cell?_alloc_some w _ o (by rw [T i hi]; rfl)).trans (T i hi)
end Go.Proofs.YthaclgnoajnceaaDoor.civ
namespace Go.Proofs.YthaclgnoajnceaaDoor.law08
open Go.RowKit Go.Proofs.YthaclgnoajnceaaDoor.civ

theorem of_is {M D : Int} (h1 : 1 ≤ M) (h2 : M ≤ 119988) (h3 : Cv.fst M ≤ D) (h4 : D < Cv.fst (M + 1)) (w : World) (T : Tab w) :
    Calls Tryd.prog 16 #[.int .i64 D] w fun e w' => e = .returned (.tuple #[.int .i64 M, .int .i64 0]) ∧ w = w' := by
  have a := Cv.ofD_eq h1 h2 h3 h4
  have b := Cv.fst_bd h1 (by omega)
  have c := Cv.fst_bd (M := M + 1) (by omega) (by omega)
  exact (of_yes D w T (by omega) (by omega)).mono fun _ _ ⟨p, q⟩ => ⟨p.trans (ret_two a rfl), q⟩
theorem days_is {M f l : Int} (h1 : 1 ≤ M) (h2 : M ≤ 119988) (hf : Cv.fst M = f) (hl : Cv.fst (M + 1) = l + 1) (w : World) (T : Tab w) :
    Calls Tryd.prog 20 #[.int .i64 M] w fun e w' => e = .returned (.tuple #[.int .i64 f, .int .i64 l, .int .i64 0]) ∧ w = w' := by
  have a := Cv.okM_mk h1 h2
  exact (days_any M w T).mono fun _ _ ⟨p, q⟩ => ⟨p.trans (ret_three (by simp [Cv.fstV, a, hf]) (by simp [Cv.lstV, a, hl]) (by simp [Cv.mE, a])), q⟩
theorem days_isnt {M : Int} (h : M < 1 ∨ 119988 < M) (w : World) (T : Tab w) :
    Calls Tryd.prog 20 #[.int .i64 M] w fun e w' => e = .returned (.tuple #[.int .i64 0, .int .i64 0, .int .i64 2]) ∧ w = w' := by
  have a := Cv.okM_no h
  exact (days_any M w T).mono fun _ _ ⟨p, q⟩ => ⟨p.trans (ret_three (by simp [Cv.fstV, a]) (by simp [Cv.lstV, a]) (by simp [Cv.mE, a])), q⟩

set_option maxRecDepth 100000 in
theorem gaps_no (M a : Int) (w : World) (T : Tab w) (h : M < 1 ∨ 119988 < M) :
    Calls Tryd.prog 8 #[.int .i64 M, .int .i64 a] w fun e w' => e = .returned (.bool true) ∧ w = w' := by
  have H := Lib.hid h
  have TT := Lib.hid T
  clear T
  rcases h with h | h
  · go_enter Tryd.func8, Tryd.ntmps8
    go_wp2_with (first | (go_at_call 20; refine (days_isnt H.out _ TT.out).mono ?_; rintro e w' ⟨rfl, rfl⟩) | (go_at_call 13; refine (head_any _ TT.out).mono ?_; rintro e w' ⟨rfl, rfl⟩))
    go_ret
    exact ⟨rfl, rfl⟩
  · have h1 : 1 ≤ M := by omega
    go_enter Tryd.func8, Tryd.ntmps8
    go_wp2_with (first | (go_at_call 20; refine (days_isnt H.out _ TT.out).mono ?_; rintro e w' ⟨rfl, rfl⟩) | (go_at_call 13; refine (head_any _ TT.out).mono ?_; rintro e w' ⟨rfl, rfl⟩))
    go_ret
    exact ⟨rfl, rfl⟩
/-- A rest of a division by n is between -n and n. -/
theorem rest_bd (a n : Int) (h : 0 < n) : -n < a.tmod n ∧ a.tmod n < n := by
  constructor
  · have := Int.lt_tmod_of_pos a h; omega
  · exact Int.tmod_lt_of_pos a h

theorem of_isnt {D : Int} (h : D < 1 ∨ 3652059 < D) (w : World) (_ : Tab w) :
    Calls Tryd.prog 16 #[.int .i64 D] w fun e w' => e = .returned (.tuple #[.int .i64 0, .int .i64 2]) ∧ w = w' :=
  of_no D w (Cv.okD_no h)

theorem prev_is {M f : Int} (h1 : 1 < M) (h2 : M ≤ 119988) (hf : Cv.fst M = f) (w : World) (T : Tab w) :
    Calls Tryd.prog 16 #[.int .i64 (f - 1)] w fun e w' => e = .returned (.tuple #[.int .i64 (M - 1), .int .i64 0]) ∧ w = w' := by
  have := (Cv.fst_lo (M := M - 1) (by omega) (by omega)).1
  have e : M - 1 + 1 = M := by omega
  rw [e, hf] at this
  exact of_is (by omega) (by omega) (by omega) (by rw [e, hf]; omega) w T

set_option maxRecDepth 100000 in
set_option maxHeartbeats 1000000 in
theorem gaps_yes (M a f l : Int) (w : World) (T : Tab w) (h1 : 1 ≤ M) (h2 : M ≤ 119988) (hf : Cv.fst M = f) (hl : Cv.fst (M + 1) = l + 1) :
    Calls Tryd.prog 8 #[.int .i64 M, .int .i64 a] w fun e w' => e = .returned (.bool true) ∧ w = w' := by
  have HF := Lib.hid hf
  have HL := Lib.hid hl
  have TT := Lib.hid T
  obtain ⟨a1, a2⟩ := Cv.fst_bd h1 (by omega)
  obtain ⟨b1, b2⟩ := Cv.fst_bd (M := M + 1) (by omega) (by omega)
  obtain ⟨c1, c2⟩ := Cv.fst_lo h1 h2
  rw [hf] at a1 a2 c1 c2
  rw [hl] at b1 b2 c1 c2
  clear T hf hl
  have n1 : 28 ≤ l - f + 1 := by omega
  have n2 : l - f + 1 ≤ 31 := by omega
  obtain ⟨r1, r2⟩ := rest_bd a (l - f + 1) (by omega)
  by_cases hk : a.tmod (l - f + 1) < 0
  · have K := Lib.hid (fun w T => of_is (M := M) (D := f + (a.tmod (l - f + 1) + (l - f + 1))) h1 h2 (by rw [HF.out]; omega) (by rw [HL.out]; omega) w T)
    by_cases m1 : M = 119988
    · have U := Lib.hid (fun w T => of_isnt (D := l + 1) (by have := HL.out; subst m1; have e : Cv.fst (119988 + 1) = 3652060 := Cv.fst_top; omega) w T)
      have D := Lib.hid (fun w T => prev_is (M := M) (f := f) (by omega) h2 HF.out w T)
      have m2 : (M == 119988) = true := by simpa using m1
      have m3 : ¬ M = 1 := by omega
      have m4 : (0 == M + 1) = false := by simp; omega
      clear m1
      go_enter Tryd.func8, Tryd.ntmps8
      go_wp2_with (first | (go_at_call 20; refine (days_is h1 h2 HF.out HL.out _ TT.out).mono ?_; rintro e w' ⟨rfl, rfl⟩) | (go_at_call 16; with_reducible (refine (U.out _ TT.out).mono ?_); rintro e w' ⟨rfl, rfl⟩) | (go_at_call 16; with_reducible (refine (D.out _ TT.out).mono ?_); rintro e w' ⟨rfl, rfl⟩) | (go_at_call 16; with_reducible (refine (K.out _ TT.out).mono ?_); rintro e w' ⟨rfl, rfl⟩) | (go_at_call 13; refine (head_any _ TT.out).mono ?_; rintro e w' ⟨rfl, rfl⟩))
      go_ret
      exact ⟨rfl, rfl⟩
    · have m5 : (M == 119988) = false := by simpa using m1
      have U := Lib.hid (fun w T => of_is (M := M + 1) (D := l + 1) (by omega) (by omega) (by rw [HL.out]; omega) (by have := (Cv.fst_lo (M := M + 1) (by omega) (by omega)).1; rw [HL.out] at this; omega) w T)
      by_cases m2 : M = 1
      · have D := Lib.hid (fun w T => of_isnt (D := f - 1) (by have := HF.out; subst m2; rw [Cv.fst_one] at this; omega) w T)
        have m3 : (M == 1) = true := by simpa using m2
        have m4 : (0 == M - 1) = true := by simp; omega
        clear m2
        go_enter Tryd.func8, Tryd.ntmps8
        go_wp2_with (first | (go_at_call 20; refine (days_is h1 h2 HF.out HL.out _ TT.out).mono ?_; rintro e w' ⟨rfl, rfl⟩) | (go_at_call 16; with_reducible (refine (U.out _ TT.out).mono ?_); rintro e w' ⟨rfl, rfl⟩) | (go_at_call 16; with_reducible (refine (D.out _ TT.out).mono ?_); rintro e w' ⟨rfl, rfl⟩) | (go_at_call 16; with_reducible (refine (K.out _ TT.out).mono ?_); rintro e w' ⟨rfl, rfl⟩) | (go_at_call 13; refine (head_any _ TT.out).mono ?_; rintro e w' ⟨rfl, rfl⟩))
        go_ret
        exact ⟨rfl, rfl⟩
      · have D := Lib.hid (fun w T => prev_is (M := M) (f := f) (by omega) h2 HF.out w T)
        go_enter Tryd.func8, Tryd.ntmps8
        go_wp2_with (first | (go_at_call 20; refine (days_is h1 h2 HF.out HL.out _ TT.out).mono ?_; rintro e w' ⟨rfl, rfl⟩) | (go_at_call 16; with_reducible (refine (U.out _ TT.out).mono ?_); rintro e w' ⟨rfl, rfl⟩) | (go_at_call 16; with_reducible (refine (D.out _ TT.out).mono ?_); rintro e w' ⟨rfl, rfl⟩) | (go_at_call 16; with_reducible (refine (K.out _ TT.out).mono ?_); rintro e w' ⟨rfl, rfl⟩) | (go_at_call 13; refine (head_any _ TT.out).mono ?_; rintro e w' ⟨rfl, rfl⟩))
        go_ret
        exact ⟨rfl, rfl⟩
  · have K := Lib.hid (fun w T => of_is (M := M) (D := f + a.tmod (l - f + 1)) h1 h2 (by rw [HF.out]; omega) (by rw [HL.out]; omega) w T)
    by_cases m1 : M = 119988
    · have U := Lib.hid (fun w T => of_isnt (D := l + 1) (by have := HL.out; subst m1; have e : Cv.fst (119988 + 1) = 3652060 := Cv.fst_top; omega) w T)
      have D := Lib.hid (fun w T => prev_is (M := M) (f := f) (by omega) h2 HF.out w T)
      have m2 : (M == 119988) = true := by simpa using m1
      have m3 : ¬ M = 1 := by omega
      have m4 : (0 == M + 1) = false := by simp; omega
      clear m1
      go_enter Tryd.func8, Tryd.ntmps8
      go_wp2_with (first | (go_at_call 20; refine (days_is h1 h2 HF.out HL.out _ TT.out).mono ?_; rintro e w' ⟨rfl, rfl⟩) | (go_at_call 16; with_reducible (refine (U.out _ TT.out).mono ?_); rintro e w' ⟨rfl, rfl⟩) | (go_at_call 16; with_reducible (refine (D.out _ TT.out).mono ?_); rintro e w' ⟨rfl, rfl⟩) | (go_at_call 16; with_reducible (refine (K.out _ TT.out).mono ?_); rintro e w' ⟨rfl, rfl⟩) | (go_at_call 13; refine (head_any _ TT.out).mono ?_; rintro e w' ⟨rfl, rfl⟩))
      go_ret
      exact ⟨rfl, rfl⟩
    · have m5 : (M == 119988) = false := by simpa using m1
      have U := Lib.hid (fun w T => of_is (M := M + 1) (D := l + 1) (by omega) (by omega) (by rw [HL.out]; omega) (by have := (Cv.fst_lo (M := M + 1) (by omega) (by omega)).1; rw [HL.out] at this; omega) w T)
      by_cases m2 : M = 1
      · have D := Lib.hid (fun w T => of_isnt (D := f - 1) (by have := HF.out; subst m2; rw [Cv.fst_one] at this; omega) w T)
        have m3 : (M == 1) = true := by simpa using m2
        have m4 : (0 == M - 1) = true := by simp; omega
        clear m2
        go_enter Tryd.func8, Tryd.ntmps8
        go_wp2_with (first | (go_at_call 20; refine (days_is h1 h2 HF.out HL.out _ TT.out).mono ?_; rintro e w' ⟨rfl, rfl⟩) | (go_at_call 16; with_reducible (refine (U.out _ TT.out).mono ?_); rintro e w' ⟨rfl, rfl⟩) | (go_at_call 16; with_reducible (refine (D.out _ TT.out).mono ?_); rintro e w' ⟨rfl, rfl⟩) | (go_at_call 16; with_reducible (refine (K.out _ TT.out).mono ?_); rintro e w' ⟨rfl, rfl⟩) | (go_at_call 13; refine (head_any _ TT.out).mono ?_; rintro e w' ⟨rfl, rfl⟩))
        go_ret
        exact ⟨rfl, rfl⟩
      · have D := Lib.hid (fun w T => prev_is (M := M) (f := f) (by omega) h2 HF.out w T)
        go_enter Tryd.func8, Tryd.ntmps8
        go_wp2_with (first | (go_at_call 20; refine (days_is h1 h2 HF.out HL.out _ TT.out).mono ?_; rintro e w' ⟨rfl, rfl⟩) | (go_at_call 16; with_reducible (refine (U.out _ TT.out).mono ?_); rintro e w' ⟨rfl, rfl⟩) | (go_at_call 16; with_reducible (refine (D.out _ TT.out).mono ?_); rintro e w' ⟨rfl, rfl⟩) | (go_at_call 16; with_reducible (refine (K.out _ TT.out).mono ?_); rintro e w' ⟨rfl, rfl⟩) | (go_at_call 13; refine (head_any _ TT.out).mono ?_; rintro e w' ⟨rfl, rfl⟩))
        go_ret
        exact ⟨rfl, rfl⟩
theorem civilGaps (M a : Int) (w : World) (T : Tab w) :
    Calls Tryd.prog 8 #[.int .i64 M, .int .i64 a] w fun e w' => e = .returned (.bool true) ∧ w = w' := by
  by_cases h : 1 ≤ M ∧ M ≤ 119988
  · exact gaps_yes M a (Cv.fst M) (Cv.fst (M + 1) - 1) w T h.1 h.2 rfl (by omega)
  · exact gaps_no M a w T (by omega)
end Go.Proofs.YthaclgnoajnceaaDoor.law08
