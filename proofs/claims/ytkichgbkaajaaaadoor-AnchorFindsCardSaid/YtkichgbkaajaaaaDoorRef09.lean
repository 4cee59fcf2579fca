/- What quittanceref09's At and Check answer (walks). No conditions. -/
import Derived.Test.YtkichgbkaajaaaaDoorAnchMath
import Derived.Test.YtkichgbkaajaaaaDoorRef08D
import Derived.Test.YtkichgbkaajaaaaDoorBase
import Derived.OpenShut
namespace Go.Proofs.YtkichgbkaajaaaaDoor.r09
open Go.RowKit Go.Proofs.YtkichgbkaajaaaaDoor.base

theorem days_t (M : Int) (w : World) (h : Cv.okM M = true) : Calls Tryd.prog 18 #[.int .i64 M] w fun e w' => e = .returned (.tuple #[.int .i64 (Cv.fst M), .int .i64 (Cv.fst (M + 1) - 1), .int .i64 0]) ∧ w = w' :=
  (ref08.days_any M w).mono fun _ _ ⟨a, b⟩ => ⟨a.trans (ret_three (by simp [Cv.fstV, h]) (by simp [Cv.lstV, h]) (by simp [Cv.mE, h])), b⟩
theorem days_f (M : Int) (w : World) (h : Cv.okM M = false) : Calls Tryd.prog 18 #[.int .i64 M] w fun e w' => e = .returned (.tuple #[.int .i64 0, .int .i64 0, .int .i64 2]) ∧ w = w' :=
  (ref08.days_any M w).mono fun _ _ ⟨a, b⟩ => ⟨a.trans (ret_three (by simp [Cv.fstV, h]) (by simp [Cv.lstV, h]) (by simp [Cv.mE, h])), b⟩
set_option maxHeartbeats 400000 in
theorem at_any (M a : Int) (w : World) : Calls Tryd.prog 9 #[.int .i64 M, .int .i64 a] w fun e w' => e = .returned (.tuple #[.int .i64 (An.atV M a), .int .i64 (An.atE M a)]) ∧ w = w' := by
  cases hM : Cv.okM M with
  | false =>
    have D1 := Lib.hid (days_f M w hM)
    have Z := Lib.hid (show An.okA M a = false by unfold An.okA; simp [hM])
    clear hM
    go_enter Tryd.func9, Tryd.ntmps9
    go_wp2_with fail
    refine D1.out.mono ?_
    rintro e w' ⟨rfl, rfl⟩
    go_wp2
    go_ret2
    exact ⟨ret_two (by simp [An.atV, Z.out]) (by simp [An.atE, Z.out]), rfl⟩
  | true =>
    have D1 := Lib.hid (days_t M w hM)
    have m1 := Cv.okM_t hM
    by_cases ha : 1 ≤ a ∧ a ≤ 31
    · have Z := Lib.hid (show An.okA M a = true by unfold An.okA; simp [hM, ha.1, ha.2])
      have at1 : min (Cv.fst M + a - 1) (Cv.fst (M + 1) - 1) = An.at_ M a := rfl
      have AV := Lib.hid (show An.atV M a = An.at_ M a by simp [An.atV, Z.out])
      generalize An.at_ M a = A at *
      have f1 := Cv.fst_bd m1.1 (by omega)
      have f2 := Cv.fst_bd (M := M + 1) (by omega) (by omega)
      clear hM m1
      generalize Cv.fst M = f at *
      generalize Cv.fst (M + 1) = g at *
      have a1 := ha.1
      have a2 := ha.2
      clear ha
      have a3 : ¬ a < 1 := by omega
      go_enter Tryd.func9, Tryd.ntmps9
      go_wp2_with fail
      refine D1.out.mono ?_
      rintro e w' ⟨rfl, rfl⟩
      go_wp2
      all_goals
        go_ret2
        exact ⟨ret_two (by rw [AV.out]; omega) (by simp [An.atE, Z.out]), rfl⟩
    · have Z := Lib.hid (An.okA_no (M := M) (a := a) (by omega))
      have hh : a < 1 ∨ (¬ a < 1 ∧ 31 < a) := by omega
      clear hM m1 ha
      generalize Cv.fst M = f at *
      generalize Cv.fst (M + 1) = g at *
      rcases hh with h | ⟨h, h'⟩
      · go_enter Tryd.func9, Tryd.ntmps9
        go_wp2_with fail
        refine D1.out.mono ?_
        rintro e w' ⟨rfl, rfl⟩
        go_wp2
        go_ret2
        exact ⟨ret_two (by simp [An.atV, Z.out]) (by simp [An.atE, Z.out]), rfl⟩
      · go_enter Tryd.func9, Tryd.ntmps9
        go_wp2_with fail
        refine D1.out.mono ?_
        rintro e w' ⟨rfl, rfl⟩
        go_wp2
        go_ret2
        exact ⟨ret_two (by simp [An.atV, Z.out]) (by simp [An.atE, Z.out]), rfl⟩
/-- A cycle, as a value. -/
abbrev cyc (s a E : Int) : Value := .agg #[.int .i64 s, .int .i64 a, .int .i64 E]
theorem check_any (s a E : Int) (w : World) : Calls Tryd.prog 11 #[cyc s a E] w fun e w' => e = .returned (.int .i64 (An.ckE s a E)) ∧ Below w.heap.size w w' := by
  cases h : An.ok s a E with
  | false =>
    have hh := An.ok_f h
    have H := Lib.hid h
    clear h
    have HH := Lib.hid hh
    clear hh
    by_cases h1 : s < 1
    · go_enter Tryd.func11, Tryd.ntmps11
      go_wp2
      go_ret
      exact ⟨ret_int (by simp [An.ckE, H.out]), (Below.refl _ _).alloc (Nat.le_refl _) _⟩
    by_cases h2 : 3652059 < s
    · go_enter Tryd.func11, Tryd.ntmps11
      go_wp2
      go_ret
      exact ⟨ret_int (by simp [An.ckE, H.out]), (Below.refl _ _).alloc (Nat.le_refl _) _⟩
    by_cases h3 : a < 1
    · go_enter Tryd.func11, Tryd.ntmps11
      go_wp2
      go_ret
      exact ⟨ret_int (by simp [An.ckE, H.out]), (Below.refl _ _).alloc (Nat.le_refl _) _⟩
    by_cases h4 : 31 < a
    · go_enter Tryd.func11, Tryd.ntmps11
      go_wp2
      go_ret
      exact ⟨ret_int (by simp [An.ckE, H.out]), (Below.refl _ _).alloc (Nat.le_refl _) _⟩
    by_cases h5 : E < 1
    · go_enter Tryd.func11, Tryd.ntmps11
      go_wp2
      go_ret
      exact ⟨ret_int (by simp [An.ckE, H.out]), (Below.refl _ _).alloc (Nat.le_refl _) _⟩
    by_cases h6 : 120 < E
    · go_enter Tryd.func11, Tryd.ntmps11
      go_wp2
      go_ret
      exact ⟨ret_int (by simp [An.ckE, H.out]), (Below.refl _ _).alloc (Nat.le_refl _) _⟩
    exact absurd (by omega) HH.out
  | true =>
    obtain ⟨⟨h1, h2⟩, ⟨h3, h4⟩, h5, h6⟩ := An.ok_t h
    have H := Lib.hid h
    clear h
    go_enter Tryd.func11, Tryd.ntmps11
    go_wp2
    go_ret
    exact ⟨ret_int (by simp [An.ckE, H.out]), (Below.refl _ _).alloc (Nat.le_refl _) _⟩
end Go.Proofs.YtkichgbkaajaaaaDoor.r09
