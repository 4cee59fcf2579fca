/- What anchor.At and Check answer (walks). The table of the days ahead of months holds its numbers. -/
import Derived.Test.YtkichgbkaajaaaaDoorAnchA
namespace Go.Proofs.YtkichgbkaajaaaaDoor.anch
open Go.RowKit Go.Proofs.YtkichgbkaajaaaaDoor.base
open Go.Proofs.YtkichgbkaajaaaaDoor.civ (Tab)

theorem Tab.after {w w' : World} (h : Tab w) (hb : Below w.heap.size w w') : Tab w' := fun i hi => by
  have := h i hi
  exact (hb.cell (p := ⟨0, i, none⟩) (lt_of_cell this)).trans this
/-- Two numbers, laid as a slice: within tells of the first. -/
theorem two_any (x y : Int) (b c : Nat) (w : World) (h0 : w.cell? ⟨b, 0, none⟩ = some (.int .i64 x)) (h1 : w.cell? ⟨b, 1, none⟩ = some (.int .i64 y)) :
    Calls Tryd.prog 20 #[.slice (some ⟨b, 0, none⟩) 2 c] w fun e w' => e = .returned (.bool (decide (1 ≤ x ∧ x ≤ y))) ∧ Below w.heap.size w w' := by
  refine (within_any (fun j => if j = 0 then x else y) 1 b c w (by omega) ?_).mono ?_
  · intro j hj
    rcases (by omega : j = 0 ∨ j = 1) with rfl | rfl
    · simpa using h0
    · simpa using h1
  · rintro e w' ⟨rfl, h⟩
    refine ⟨ret_bool ?_, h⟩
    simp [win]
theorem six_any (x1 y1 x2 y2 x3 y3 : Int) (b c : Nat) (w : World) (h0 : w.cell? ⟨b, 0, none⟩ = some (.int .i64 x1)) (h1 : w.cell? ⟨b, 1, none⟩ = some (.int .i64 y1))
    (h2 : w.cell? ⟨b, 2, none⟩ = some (.int .i64 x2)) (h3 : w.cell? ⟨b, 3, none⟩ = some (.int .i64 y2)) (h4 : w.cell? ⟨b, 4, none⟩ = some (.int .i64 x3)) (h5 : w.cell? ⟨b, 5, none⟩ = some (.int .i64 y3)) :
    Calls Tryd.prog 20 #[.slice (some ⟨b, 0, none⟩) 6 c] w fun e w' => e = .returned (.bool (decide ((1 ≤ x1 ∧ x1 ≤ y1) ∧ (1 ≤ x2 ∧ x2 ≤ y2) ∧ 1 ≤ x3 ∧ x3 ≤ y3))) ∧ Below w.heap.size w w' := by
  refine (within_any (fun j => [x1, y1, x2, y2, x3, y3].getD j 0) 3 b c w (by omega) ?_).mono ?_
  · intro j hj
    rcases (by omega : j = 0 ∨ j = 1 ∨ j = 2 ∨ j = 3 ∨ j = 4 ∨ j = 5) with rfl | rfl | rfl | rfl | rfl | rfl
    · simpa using h0
    · simpa using h1
    · simpa using h2
    · simpa using h3
    · simpa using h4
    · simpa using h5
  · rintro e w' ⟨rfl, h⟩
    refine ⟨ret_bool ?_, h⟩
    simp [win, Bool.and_assoc]
theorem days_t (M : Int) (w : World) (T : Tab w) (h : Cv.okM M = true) : Calls Tryd.prog 19 #[.int .i64 M] w fun e w' => e = .returned (.tuple #[.int .i64 (Cv.fst M), .int .i64 (Cv.fst (M + 1) - 1), .int .i64 0]) ∧ w = w' :=
  (civ.days_any M w T).mono fun _ _ ⟨a, b⟩ => ⟨a.trans (ret_three (by simp [Cv.fstV, h]) (by simp [Cv.lstV, h]) (by simp [Cv.mE, h])), b⟩
theorem days_f (M : Int) (w : World) (T : Tab w) (h : Cv.okM M = false) : Calls Tryd.prog 19 #[.int .i64 M] w fun e w' => e = .returned (.tuple #[.int .i64 0, .int .i64 0, .int .i64 2]) ∧ w = w' :=
  (civ.days_any M w T).mono fun _ _ ⟨a, b⟩ => ⟨a.trans (ret_three (by simp [Cv.fstV, h]) (by simp [Cv.lstV, h]) (by simp [Cv.mE, h])), b⟩
theorem two_is {x y : Int} {v : Bool} (b c : Nat) (w : World) (h0 : w.cell? ⟨b, 0, none⟩ = some (.int .i64 x)) (h1 : w.cell? ⟨b, 1, none⟩ = some (.int .i64 y)) (hv : decide (1 ≤ x ∧ x ≤ y) = v) :
    Calls Tryd.prog 20 #[.slice (some ⟨b, 0, none⟩) 2 c] w fun e w' => e = .returned (.bool v) ∧ Below w.heap.size w w' := by
  subst hv; exact two_any x y b c w h0 h1
theorem six_is {x1 y1 x2 y2 x3 y3 : Int} {v : Bool} (b c : Nat) (w : World) (h0 : w.cell? ⟨b, 0, none⟩ = some (.int .i64 x1)) (h1 : w.cell? ⟨b, 1, none⟩ = some (.int .i64 y1))
    (h2 : w.cell? ⟨b, 2, none⟩ = some (.int .i64 x2)) (h3 : w.cell? ⟨b, 3, none⟩ = some (.int .i64 y2)) (h4 : w.cell? ⟨b, 4, none⟩ = some (.int .i64 x3)) (h5 : w.cell? ⟨b, 5, none⟩ = some (.int .i64 y3))
    (hv : decide ((1 ≤ x1 ∧ x1 ≤ y1) ∧ (1 ≤ x2 ∧ x2 ≤ y2) ∧ 1 ≤ x3 ∧ x3 ≤ y3) = v) :
    Calls Tryd.prog 20 #[.slice (some ⟨b, 0, none⟩) 6 c] w fun e w' => e = .returned (.bool v) ∧ Below w.heap.size w w' := by
  subst hv; exact six_any x1 y1 x2 y2 x3 y3 b c w h0 h1 h2 h3 h4 h5
set_option maxHeartbeats 400000 in
theorem at_any (M a : Int) (w : World) (T : Tab w) : Calls Tryd.prog 8 #[.int .i64 M, .int .i64 a] w fun e w' => e = .returned (.tuple #[.int .i64 (An.atV M a), .int .i64 (An.atE M a)]) ∧ Below w.heap.size w w' := by
  cases hM : Cv.okM M with
  | false =>
    have D1 := Lib.hid (days_f M w T hM)
    have Z := Lib.hid (show An.okA M a = false by unfold An.okA; simp [hM])
    clear hM
    go_enter Tryd.func8, Tryd.ntmps8
    go_wp2_with fail
    refine D1.out.mono ?_
    rintro e w' ⟨rfl, rfl⟩
    go_wp2
    go_ret2
    exact ⟨ret_two (by simp [An.atV, Z.out]) (by simp [An.atE, Z.out]), Below.refl _ _⟩
  | true =>
    have D1 := Lib.hid (days_t M w T hM)
    have m1 := Cv.okM_t hM
    by_cases ha : 1 ≤ a ∧ a ≤ 31
    · have Z := Lib.hid (show An.okA M a = true by unfold An.okA; simp [hM, ha.1, ha.2])
      have V := Lib.hid (show decide (1 ≤ a ∧ a ≤ 31) = true by simpa using ha)
      have at1 : min (Cv.fst M + a - 1) (Cv.fst (M + 1) - 1) = An.at_ M a := rfl
      have AV := Lib.hid (show An.atV M a = An.at_ M a by simp [An.atV, Z.out])
      generalize An.at_ M a = A at *
      have f1 := Cv.fst_bd m1.1 (by omega)
      have f2 := Cv.fst_bd (M := M + 1) (by omega) (by omega)
      clear hM m1
      generalize Cv.fst M = f at *
      generalize Cv.fst (M + 1) = g at *
      go_enter Tryd.func8, Tryd.ntmps8
      go_wp2_with fail
      refine D1.out.mono ?_
      rintro e w' ⟨rfl, rfl⟩
      go_wp2_with fail
      refine (two_is _ _ _ ?_ ?_ V.out).mono ?_
      · simp [go_sem]
      · simp [go_sem]
      rintro e w1 ⟨rfl, B1⟩
      have K1 := Lib.hid (((Below.refl _ _).alloc (Nat.le_refl _) _).trans (B1.mono (by simp)))
      clear B1
      go_wp2
      all_goals
        go_ret2
        exact ⟨ret_two (by rw [AV.out]; omega) (by simp [An.atE, Z.out]), K1.out⟩
    · have Z := Lib.hid (An.okA_no (M := M) (a := a) (by omega))
      have V := Lib.hid (show decide (1 ≤ a ∧ a ≤ 31) = false by simpa using ha)
      clear hM m1 ha
      generalize Cv.fst M = f at *
      generalize Cv.fst (M + 1) = g at *
      go_enter Tryd.func8, Tryd.ntmps8
      go_wp2_with fail
      refine D1.out.mono ?_
      rintro e w' ⟨rfl, rfl⟩
      go_wp2_with fail
      refine (two_is _ _ _ ?_ ?_ V.out).mono ?_
      · simp [go_sem]
      · simp [go_sem]
      rintro e w1 ⟨rfl, B1⟩
      have K1 := Lib.hid (((Below.refl _ _).alloc (Nat.le_refl _) _).trans (B1.mono (by simp)))
      clear B1
      go_wp2
      go_ret2
      exact ⟨ret_two (by simp [An.atV, Z.out]) (by simp [An.atE, Z.out]), K1.out⟩
/-- A cycle, as a value. -/
abbrev cyc (s a E : Int) : Value := .agg #[.int .i64 s, .int .i64 a, .int .i64 E]
set_option maxHeartbeats 400000 in
theorem check_any (s a E : Int) (w : World) : Calls Tryd.prog 10 #[cyc s a E] w fun e w' => e = .returned (.int .i64 (An.ckE s a E)) ∧ Below w.heap.size w w' := by
  cases h : An.ok s a E with
  | false =>
    have V := Lib.hid (show decide ((1 ≤ s ∧ s ≤ 3652059) ∧ (1 ≤ a ∧ a ≤ 31) ∧ 1 ≤ E ∧ E ≤ 120) = false by simpa using An.ok_f h)
    have H := Lib.hid h
    clear h
    go_enter Tryd.func10, Tryd.ntmps10
    go_wp2_with fail
    refine (six_is _ _ _ ?_ ?_ ?_ ?_ ?_ ?_ V.out).mono ?_
    · simp [go_sem]
    · simp [go_sem]
    · simp [go_sem]
    · simp [go_sem]
    · simp [go_sem]
    · simp [go_sem]
    rintro e w1 ⟨rfl, B1⟩
    have K1 := Lib.hid ((((Below.refl _ _).alloc (Nat.le_refl _) _).alloc (by simp) _).trans (B1.mono (by simp; omega)))
    clear B1
    go_wp2
    go_ret
    exact ⟨ret_int (by simp [An.ckE, H.out]), K1.out⟩
  | true =>
    have V := Lib.hid (show decide ((1 ≤ s ∧ s ≤ 3652059) ∧ (1 ≤ a ∧ a ≤ 31) ∧ 1 ≤ E ∧ E ≤ 120) = true by simpa using An.ok_t h)
    have H := Lib.hid h
    clear h
    go_enter Tryd.func10, Tryd.ntmps10
    go_wp2_with fail
    refine (six_is _ _ _ ?_ ?_ ?_ ?_ ?_ ?_ V.out).mono ?_
    · simp [go_sem]
    · simp [go_sem]
    · simp [go_sem]
    · simp [go_sem]
    · simp [go_sem]
    · simp [go_sem]
    rintro e w1 ⟨rfl, B1⟩
    have K1 := Lib.hid ((((Below.refl _ _).alloc (Nat.le_refl _) _).alloc (by simp) _).trans (B1.mono (by simp; omega)))
    clear B1
    go_wp2
    go_ret
    exact ⟨ret_int (by simp [An.ckE, H.out]), K1.out⟩
end Go.Proofs.YtkichgbkaajaaaaDoor.anch
