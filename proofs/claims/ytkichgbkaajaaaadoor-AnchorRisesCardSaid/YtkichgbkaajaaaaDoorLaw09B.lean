/- The statements AnchorAts and AnchorLong of chapter 09, walked: each answers true. The table of the days ahead of months holds its numbers. -/
import Derived.Test.YtkichgbkaajaaaaDoorLaw09
namespace Go.Proofs.YtkichgbkaajaaaaDoor.law09
open Go.RowKit Go.Proofs.YtkichgbkaajaaaaDoor.base Go.Proofs.YtkichgbkaajaaaaDoor.anch
open Go.Proofs.YtkichgbkaajaaaaDoor.civ (Tab ret_four)

set_option maxRecDepth 100000 in
set_option maxHeartbeats 1000000 in
theorem anchorAts (M p s a E : Int) (w : World) (T : Tab w) : Calls Tryd.prog 3 #[.int .i64 M, .int .i64 p, cyc s a E] w fun e w' => e = .returned (.bool true) ∧ Below w.heap.size w w' := by
  have HT := Lib.hid T
  clear T
  have HA := Lib.hid (fun (w : World) (T : Tab w) => at_any M p w T)
  have HR := Lib.hid (fun (w : World) => r09.at_any M p w)
  have HC := Lib.hid (fun (w : World) => anch.check_any s a E w)
  have HD := Lib.hid (fun (w : World) => r09.check_any s a E w)
  generalize An.atV M p = A at *
  generalize An.atE M p = R at *
  generalize An.ckE s a E = C at *
  go_enter Tryd.func3, Tryd.ntmps3
  go_wp2_with fail
  refine (HA.out _ (Tab.after HT.out ((Below.refl _ _).alloc (Nat.le_refl _) _))).mono ?_
  rintro e w1 ⟨rfl, B1⟩
  have K1 := Lib.hid (((Below.refl _ _).alloc (Nat.le_refl _) _).trans (B1.mono (by simp)))
  obtain ⟨c0, c1, c2⟩ := (show Cyc w.heap.size s a E (w.alloc (.cells #[.int .i64 s, .int .i64 a, .int .i64 E] 23)) from ⟨by simp [go_sem], by simp [go_sem], by simp [go_sem]⟩).after B1
  clear B1
  go_wp2_with fail
  refine (HR.out _).mono ?_
  rintro e w' ⟨rfl, rfl⟩
  go_wp2
  go_region_held3 (fun w' => w'.cell? ⟨w.heap.size, 0, none⟩ = some (.int .i64 s) ∧ w'.cell? ⟨w.heap.size, 1, none⟩ = some (.int .i64 a) ∧ w'.cell? ⟨w.heap.size, 2, none⟩ = some (.int .i64 E) ∧ Below w1.heap.size w1 w')
    (first
      | exact ⟨c0, c1, c2, (Below.refl _ _).drew⟩
      | (go_split_ands; exact keepC (by assumption) (by assumption) (by assumption) (by assumption) B3)
      | (go_split_ands; exact keepC (by assumption) (by assumption) (by assumption) (by assumption) B4)
      | (go_split_ands; exact keepC (by assumption) (by assumption) (by assumption) (by assumption) B5))
    (first
      | (go_at_call 10; refine (HC.out _).mono ?_; rintro e w3 ⟨rfl, B3⟩)
      | (go_at_call 11; refine (HD.out _).mono ?_; rintro e w4 ⟨rfl, B4⟩)
      | (go_at_call 12; go_split_ands; refine (head_any _ (Tab.after HT.out (K1.out.trans (Below.mono (by assumption) K1.out.size)))).mono ?_; rintro e w5 ⟨rfl, B5⟩))
  all_goals
    go_split_ands
    have HB : Below w1.heap.size w1 w5 := by assumption
    have K5 := Lib.hid (K1.out.trans (HB.mono K1.out.size))
    go_wp2
    go_ret
    exact ⟨rfl, K5.out⟩

theorem at_of {M a : Int} (A e : Int) (w : World) (T : Tab w) (h1 : An.atV M a = A) (h2 : An.atE M a = e) : Calls Tryd.prog 8 #[.int .i64 M, .int .i64 a] w fun e' w' => e' = .returned (.tuple #[.int .i64 A, .int .i64 e]) ∧ Below w.heap.size w w' := by
  subst h1 h2; exact at_any M a w T
set_option maxRecDepth 100000 in
set_option maxHeartbeats 1000000 in
theorem anchorLong_lt (M p q : Int) (w : World) (T : Tab w) (hpq : p < q) : Calls Tryd.prog 7 #[.int .i64 M, .int .i64 p, .int .i64 q] w fun e w' => e = .returned (.bool true) ∧ Below w.heap.size w w' := by
  have HT := Lib.hid T
  clear T
  cases hM : Cv.okM M with
  | false =>
    have D1 := Lib.hid (fun w => r09.days_f M w hM)
    have X1 := Lib.hid (fun w T => at_of (M := M) (a := p) 0 2 w T (by simp [An.atV, An.okA, hM]) (by simp [An.atE, An.okA, hM]))
    have Y1 := Lib.hid (fun w T => at_of (M := M) (a := q) 0 2 w T (by simp [An.atV, An.okA, hM]) (by simp [An.atE, An.okA, hM]))
    clear hM
    go_enter Tryd.func7, Tryd.ntmps7
    go_wp2_with fail
    refine (D1.out _).mono ?_
    rintro e w' ⟨rfl, rfl⟩
    go_wp2_with fail
    refine (X1.out _ HT.out).mono ?_
    rintro e w1 ⟨rfl, B1⟩
    have K1 := Lib.hid B1
    clear B1
    go_wp2_with fail
    refine (Y1.out _ (Tab.after HT.out K1.out)).mono ?_
    rintro e w2 ⟨rfl, B2⟩
    have K2 := Lib.hid (K1.out.trans (B2.mono K1.out.size))
    clear B2
    go_wp2_with fail
    refine (head_any _ (Tab.after HT.out K2.out)).mono ?_
    rintro e w3 ⟨rfl, B3⟩
    have K3 := Lib.hid (K2.out.trans (B3.mono K2.out.size))
    clear B3
    go_wp2
    go_ret
    exact ⟨rfl, K3.out⟩
  | true =>
    have D1 := Lib.hid (fun w => r09.days_t M w hM)
    have m1 := Cv.okM_t hM
    have fb1 := Cv.fst_bd m1.1 (by omega)
    have fb2 := Cv.fst_bd (M := M + 1) (by omega) (by omega)
    have fb3 := Cv.fst_lo m1.1 m1.2
    by_cases hx : p < 1
    · have X1 := Lib.hid (fun w T => at_of (M := M) (a := p) 0 2 w T (by simp [An.atV, An.okA_no (M := M) (a := p) (by omega)]) (by simp [An.atE, An.okA_no (M := M) (a := p) (by omega)]))
      have Y1 := Lib.hid (fun w T => at_of (M := M) (a := q) _ _ w T rfl rfl)
      clear hM m1
      generalize Cv.fst M = f at *
      generalize Cv.fst (M + 1) = g at *
      go_enter Tryd.func7, Tryd.ntmps7
      go_wp2_with fail
      refine (D1.out _).mono ?_
      rintro e w' ⟨rfl, rfl⟩
      go_wp2_with fail
      refine (X1.out _ HT.out).mono ?_
      rintro e w1 ⟨rfl, B1⟩
      have K1 := Lib.hid B1
      clear B1
      go_wp2_with fail
      refine (Y1.out _ (Tab.after HT.out K1.out)).mono ?_
      rintro e w2 ⟨rfl, B2⟩
      have K2 := Lib.hid (K1.out.trans (B2.mono K1.out.size))
      clear B2
      go_wp2_with fail
      refine (head_any _ (Tab.after HT.out K2.out)).mono ?_
      rintro e w3 ⟨rfl, B3⟩
      have K3 := Lib.hid (K2.out.trans (B3.mono K2.out.size))
      clear B3
      go_wp2
      go_ret
      exact ⟨rfl, K3.out⟩
    · by_cases hy : 31 < q
      · have Y1 := Lib.hid (fun w T => at_of (M := M) (a := q) 0 2 w T (by simp [An.atV, An.okA_no (M := M) (a := q) (by omega)]) (by simp [An.atE, An.okA_no (M := M) (a := q) (by omega)]))
        by_cases hz : 31 < p
        · have X1 := Lib.hid (fun w T => at_of (M := M) (a := p) 0 2 w T (by simp [An.atV, An.okA_no (M := M) (a := p) (by omega)]) (by simp [An.atE, An.okA_no (M := M) (a := p) (by omega)]))
          clear hM m1
          generalize Cv.fst M = f at *
          generalize Cv.fst (M + 1) = g at *
          go_enter Tryd.func7, Tryd.ntmps7
          go_wp2_with fail
          refine (D1.out _).mono ?_
          rintro e w' ⟨rfl, rfl⟩
          go_wp2_with fail
          refine (X1.out _ HT.out).mono ?_
          rintro e w1 ⟨rfl, B1⟩
          have K1 := Lib.hid B1
          clear B1
          go_wp2_with fail
          refine (Y1.out _ (Tab.after HT.out K1.out)).mono ?_
          rintro e w2 ⟨rfl, B2⟩
          have K2 := Lib.hid (K1.out.trans (B2.mono K1.out.size))
          clear B2
          go_wp2_with fail
          refine (head_any _ (Tab.after HT.out K2.out)).mono ?_
          rintro e w3 ⟨rfl, B3⟩
          have K3 := Lib.hid (K2.out.trans (B3.mono K2.out.size))
          clear B3
          go_wp2
          go_ret
          exact ⟨rfl, K3.out⟩
        · have X1 := Lib.hid (fun w T => at_of (M := M) (a := p) (An.at_ M p) 0 w T (by simp [An.atV, An.okA_mk m1.1 m1.2 (by omega : 1 ≤ p) (by omega)]) (by simp [An.atE, An.okA_mk m1.1 m1.2 (by omega : 1 ≤ p) (by omega)]))
          clear hM m1
          generalize Cv.fst M = f at *
          generalize Cv.fst (M + 1) = g at *
          generalize An.at_ M p = A at *
          go_enter Tryd.func7, Tryd.ntmps7
          go_wp2_with fail
          refine (D1.out _).mono ?_
          rintro e w' ⟨rfl, rfl⟩
          go_wp2_with fail
          refine (X1.out _ HT.out).mono ?_
          rintro e w1 ⟨rfl, B1⟩
          have K1 := Lib.hid B1
          clear B1
          go_wp2_with fail
          refine (Y1.out _ (Tab.after HT.out K1.out)).mono ?_
          rintro e w2 ⟨rfl, B2⟩
          have K2 := Lib.hid (K1.out.trans (B2.mono K1.out.size))
          clear B2
          go_wp2_with fail
          refine (head_any _ (Tab.after HT.out K2.out)).mono ?_
          rintro e w3 ⟨rfl, B3⟩
          have K3 := Lib.hid (K2.out.trans (B3.mono K2.out.size))
          clear B3
          go_wp2
          go_ret
          exact ⟨rfl, K3.out⟩
      · have X1 := Lib.hid (fun w T => at_of (M := M) (a := p) (An.at_ M p) 0 w T (by simp [An.atV, An.okA_mk m1.1 m1.2 (by omega : 1 ≤ p) (by omega)]) (by simp [An.atE, An.okA_mk m1.1 m1.2 (by omega : 1 ≤ p) (by omega)]))
        have Y1 := Lib.hid (fun w T => at_of (M := M) (a := q) (An.at_ M q) 0 w T (by simp [An.atV, An.okA_mk m1.1 m1.2 (by omega : 1 ≤ q) (by omega)]) (by simp [An.atE, An.okA_mk m1.1 m1.2 (by omega : 1 ≤ q) (by omega)]))
        have hA : An.at_ M p = min (Cv.fst M + p - 1) (Cv.fst (M + 1) - 1) := rfl
        have hB : An.at_ M q = min (Cv.fst M + q - 1) (Cv.fst (M + 1) - 1) := rfl
        clear hM m1
        generalize Cv.fst M = f at *
        generalize Cv.fst (M + 1) = g at *
        generalize An.at_ M p = A at *
        generalize An.at_ M q = B at *
        have y0 : A ≤ B := by omega
        have y1 : f ≤ A := by omega
        have y2 : B ≤ g - 1 := by omega
        have y3 : B < g := by omega
        by_cases hz : g - 1 < f + p - 1
        · obtain rfl : A = g - 1 := by omega
          have y4 : ¬ g - 1 = f + p - 1 := by omega
          clear hA hB
          go_enter Tryd.func7, Tryd.ntmps7
          go_wp2_with fail
          refine (D1.out _).mono ?_
          rintro e w' ⟨rfl, rfl⟩
          go_wp2_with fail
          refine (X1.out _ HT.out).mono ?_
          rintro e w1 ⟨rfl, B1⟩
          have K1 := Lib.hid B1
          clear B1
          go_wp2_with fail
          refine (Y1.out _ (Tab.after HT.out K1.out)).mono ?_
          rintro e w2 ⟨rfl, B2⟩
          have K2 := Lib.hid (K1.out.trans (B2.mono K1.out.size))
          clear B2
          go_wp2_with fail
          refine (head_any _ (Tab.after HT.out K2.out)).mono ?_
          rintro e w3 ⟨rfl, B3⟩
          have K3 := Lib.hid (K2.out.trans (B3.mono K2.out.size))
          clear B3
          go_wp2
          go_ret
          exact ⟨rfl, K3.out⟩
        · obtain rfl : A = f + p - 1 := by omega
          clear hA hB
          go_enter Tryd.func7, Tryd.ntmps7
          go_wp2_with fail
          refine (D1.out _).mono ?_
          rintro e w' ⟨rfl, rfl⟩
          go_wp2_with fail
          refine (X1.out _ HT.out).mono ?_
          rintro e w1 ⟨rfl, B1⟩
          have K1 := Lib.hid B1
          clear B1
          go_wp2_with fail
          refine (Y1.out _ (Tab.after HT.out K1.out)).mono ?_
          rintro e w2 ⟨rfl, B2⟩
          have K2 := Lib.hid (K1.out.trans (B2.mono K1.out.size))
          clear B2
          go_wp2_with fail
          refine (head_any _ (Tab.after HT.out K2.out)).mono ?_
          rintro e w3 ⟨rfl, B3⟩
          have K3 := Lib.hid (K2.out.trans (B3.mono K2.out.size))
          clear B3
          go_wp2
          go_ret
          exact ⟨rfl, K3.out⟩
set_option maxRecDepth 100000 in
set_option maxHeartbeats 1000000 in
theorem anchorLong_gt (M p q : Int) (w : World) (T : Tab w) (hpq : q < p) : Calls Tryd.prog 7 #[.int .i64 M, .int .i64 p, .int .i64 q] w fun e w' => e = .returned (.bool true) ∧ Below w.heap.size w w' := by
  have HT := Lib.hid T
  clear T
  cases hM : Cv.okM M with
  | false =>
    have D1 := Lib.hid (fun w => r09.days_f M w hM)
    have X1 := Lib.hid (fun w T => at_of (M := M) (a := q) 0 2 w T (by simp [An.atV, An.okA, hM]) (by simp [An.atE, An.okA, hM]))
    have Y1 := Lib.hid (fun w T => at_of (M := M) (a := p) 0 2 w T (by simp [An.atV, An.okA, hM]) (by simp [An.atE, An.okA, hM]))
    clear hM
    go_enter Tryd.func7, Tryd.ntmps7
    go_wp2_with fail
    refine (D1.out _).mono ?_
    rintro e w' ⟨rfl, rfl⟩
    go_wp2_with fail
    refine (X1.out _ HT.out).mono ?_
    rintro e w1 ⟨rfl, B1⟩
    have K1 := Lib.hid B1
    clear B1
    go_wp2_with fail
    refine (Y1.out _ (Tab.after HT.out K1.out)).mono ?_
    rintro e w2 ⟨rfl, B2⟩
    have K2 := Lib.hid (K1.out.trans (B2.mono K1.out.size))
    clear B2
    go_wp2_with fail
    refine (head_any _ (Tab.after HT.out K2.out)).mono ?_
    rintro e w3 ⟨rfl, B3⟩
    have K3 := Lib.hid (K2.out.trans (B3.mono K2.out.size))
    clear B3
    go_wp2
    go_ret
    exact ⟨rfl, K3.out⟩
  | true =>
    have D1 := Lib.hid (fun w => r09.days_t M w hM)
    have m1 := Cv.okM_t hM
    have fb1 := Cv.fst_bd m1.1 (by omega)
    have fb2 := Cv.fst_bd (M := M + 1) (by omega) (by omega)
    have fb3 := Cv.fst_lo m1.1 m1.2
    by_cases hx : q < 1
    · have X1 := Lib.hid (fun w T => at_of (M := M) (a := q) 0 2 w T (by simp [An.atV, An.okA_no (M := M) (a := q) (by omega)]) (by simp [An.atE, An.okA_no (M := M) (a := q) (by omega)]))
      have Y1 := Lib.hid (fun w T => at_of (M := M) (a := p) _ _ w T rfl rfl)
      clear hM m1
      generalize Cv.fst M = f at *
      generalize Cv.fst (M + 1) = g at *
      go_enter Tryd.func7, Tryd.ntmps7
      go_wp2_with fail
      refine (D1.out _).mono ?_
      rintro e w' ⟨rfl, rfl⟩
      go_wp2_with fail
      refine (X1.out _ HT.out).mono ?_
      rintro e w1 ⟨rfl, B1⟩
      have K1 := Lib.hid B1
      clear B1
      go_wp2_with fail
      refine (Y1.out _ (Tab.after HT.out K1.out)).mono ?_
      rintro e w2 ⟨rfl, B2⟩
      have K2 := Lib.hid (K1.out.trans (B2.mono K1.out.size))
      clear B2
      go_wp2_with fail
      refine (head_any _ (Tab.after HT.out K2.out)).mono ?_
      rintro e w3 ⟨rfl, B3⟩
      have K3 := Lib.hid (K2.out.trans (B3.mono K2.out.size))
      clear B3
      go_wp2
      go_ret
      exact ⟨rfl, K3.out⟩
    · by_cases hy : 31 < p
      · have Y1 := Lib.hid (fun w T => at_of (M := M) (a := p) 0 2 w T (by simp [An.atV, An.okA_no (M := M) (a := p) (by omega)]) (by simp [An.atE, An.okA_no (M := M) (a := p) (by omega)]))
        by_cases hz : 31 < q
        · have X1 := Lib.hid (fun w T => at_of (M := M) (a := q) 0 2 w T (by simp [An.atV, An.okA_no (M := M) (a := q) (by omega)]) (by simp [An.atE, An.okA_no (M := M) (a := q) (by omega)]))
          clear hM m1
          generalize Cv.fst M = f at *
          generalize Cv.fst (M + 1) = g at *
          go_enter Tryd.func7, Tryd.ntmps7
          go_wp2_with fail
          refine (D1.out _).mono ?_
          rintro e w' ⟨rfl, rfl⟩
          go_wp2_with fail
          refine (X1.out _ HT.out).mono ?_
          rintro e w1 ⟨rfl, B1⟩
          have K1 := Lib.hid B1
          clear B1
          go_wp2_with fail
          refine (Y1.out _ (Tab.after HT.out K1.out)).mono ?_
          rintro e w2 ⟨rfl, B2⟩
          have K2 := Lib.hid (K1.out.trans (B2.mono K1.out.size))
          clear B2
          go_wp2_with fail
          refine (head_any _ (Tab.after HT.out K2.out)).mono ?_
          rintro e w3 ⟨rfl, B3⟩
          have K3 := Lib.hid (K2.out.trans (B3.mono K2.out.size))
          clear B3
          go_wp2
          go_ret
          exact ⟨rfl, K3.out⟩
        · have X1 := Lib.hid (fun w T => at_of (M := M) (a := q) (An.at_ M q) 0 w T (by simp [An.atV, An.okA_mk m1.1 m1.2 (by omega : 1 ≤ q) (by omega)]) (by simp [An.atE, An.okA_mk m1.1 m1.2 (by omega : 1 ≤ q) (by omega)]))
          clear hM m1
          generalize Cv.fst M = f at *
          generalize Cv.fst (M + 1) = g at *
          generalize An.at_ M q = A at *
          go_enter Tryd.func7, Tryd.ntmps7
          go_wp2_with fail
          refine (D1.out _).mono ?_
          rintro e w' ⟨rfl, rfl⟩
          go_wp2_with fail
          refine (X1.out _ HT.out).mono ?_
          rintro e w1 ⟨rfl, B1⟩
          have K1 := Lib.hid B1
          clear B1
          go_wp2_with fail
          refine (Y1.out _ (Tab.after HT.out K1.out)).mono ?_
          rintro e w2 ⟨rfl, B2⟩
          have K2 := Lib.hid (K1.out.trans (B2.mono K1.out.size))
          clear B2
          go_wp2_with fail
          refine (head_any _ (Tab.after HT.out K2.out)).mono ?_
          rintro e w3 ⟨rfl, B3⟩
          have K3 := Lib.hid (K2.out.trans (B3.mono K2.out.size))
          clear B3
          go_wp2
          go_ret
          exact ⟨rfl, K3.out⟩
      · have X1 := Lib.hid (fun w T => at_of (M := M) (a := q) (An.at_ M q) 0 w T (by simp [An.atV, An.okA_mk m1.1 m1.2 (by omega : 1 ≤ q) (by omega)]) (by simp [An.atE, An.okA_mk m1.1 m1.2 (by omega : 1 ≤ q) (by omega)]))
        have Y1 := Lib.hid (fun w T => at_of (M := M) (a := p) (An.at_ M p) 0 w T (by simp [An.atV, An.okA_mk m1.1 m1.2 (by omega : 1 ≤ p) (by omega)]) (by simp [An.atE, An.okA_mk m1.1 m1.2 (by omega : 1 ≤ p) (by omega)]))
        have hA : An.at_ M q = min (Cv.fst M + q - 1) (Cv.fst (M + 1) - 1) := rfl
        have hB : An.at_ M p = min (Cv.fst M + p - 1) (Cv.fst (M + 1) - 1) := rfl
        clear hM m1
        generalize Cv.fst M = f at *
        generalize Cv.fst (M + 1) = g at *
        generalize An.at_ M q = A at *
        generalize An.at_ M p = B at *
        have y0 : A ≤ B := by omega
        have y1 : f ≤ A := by omega
        have y2 : B ≤ g - 1 := by omega
        have y3 : B < g := by omega
        by_cases hz : g - 1 < f + q - 1
        · obtain rfl : A = g - 1 := by omega
          have y4 : ¬ g - 1 = f + q - 1 := by omega
          clear hA hB
          go_enter Tryd.func7, Tryd.ntmps7
          go_wp2_with fail
          refine (D1.out _).mono ?_
          rintro e w' ⟨rfl, rfl⟩
          go_wp2_with fail
          refine (X1.out _ HT.out).mono ?_
          rintro e w1 ⟨rfl, B1⟩
          have K1 := Lib.hid B1
          clear B1
          go_wp2_with fail
          refine (Y1.out _ (Tab.after HT.out K1.out)).mono ?_
          rintro e w2 ⟨rfl, B2⟩
          have K2 := Lib.hid (K1.out.trans (B2.mono K1.out.size))
          clear B2
          go_wp2_with fail
          refine (head_any _ (Tab.after HT.out K2.out)).mono ?_
          rintro e w3 ⟨rfl, B3⟩
          have K3 := Lib.hid (K2.out.trans (B3.mono K2.out.size))
          clear B3
          go_wp2
          go_ret
          exact ⟨rfl, K3.out⟩
        · obtain rfl : A = f + q - 1 := by omega
          clear hA hB
          go_enter Tryd.func7, Tryd.ntmps7
          go_wp2_with fail
          refine (D1.out _).mono ?_
          rintro e w' ⟨rfl, rfl⟩
          go_wp2_with fail
          refine (X1.out _ HT.out).mono ?_
          rintro e w1 ⟨rfl, B1⟩
          have K1 := Lib.hid B1
          clear B1
          go_wp2_with fail
          refine (Y1.out _ (Tab.after HT.out K1.out)).mono ?_
          rintro e w2 ⟨rfl, B2⟩
          have K2 := Lib.hid (K1.out.trans (B2.mono K1.out.size))
          clear B2
          go_wp2_with fail
          refine (head_any _ (Tab.after HT.out K2.out)).mono ?_
          rintro e w3 ⟨rfl, B3⟩
          have K3 := Lib.hid (K2.out.trans (B3.mono K2.out.size))
          clear B3
          go_wp2
          go_ret
          exact ⟨rfl, K3.out⟩
set_option maxRecDepth 100000 in
set_option maxHeartbeats 1000000 in
theorem anchorLong_eq (M p : Int) (w : World) (T : Tab w) : Calls Tryd.prog 7 #[.int .i64 M, .int .i64 p, .int .i64 p] w fun e w' => e = .returned (.bool true) ∧ Below w.heap.size w w' := by
  have HT := Lib.hid T
  clear T
  cases hM : Cv.okM M with
  | false =>
    have D1 := Lib.hid (fun w => r09.days_f M w hM)
    have X1 := Lib.hid (fun w T => at_of (M := M) (a := p) 0 2 w T (by simp [An.atV, An.okA, hM]) (by simp [An.atE, An.okA, hM]))
    have Y1 := Lib.hid (fun w T => at_of (M := M) (a := p) 0 2 w T (by simp [An.atV, An.okA, hM]) (by simp [An.atE, An.okA, hM]))
    clear hM
    go_enter Tryd.func7, Tryd.ntmps7
    go_wp2_with fail
    refine (D1.out _).mono ?_
    rintro e w' ⟨rfl, rfl⟩
    go_wp2_with fail
    refine (X1.out _ HT.out).mono ?_
    rintro e w1 ⟨rfl, B1⟩
    have K1 := Lib.hid B1
    clear B1
    go_wp2_with fail
    refine (Y1.out _ (Tab.after HT.out K1.out)).mono ?_
    rintro e w2 ⟨rfl, B2⟩
    have K2 := Lib.hid (K1.out.trans (B2.mono K1.out.size))
    clear B2
    go_wp2_with fail
    refine (head_any _ (Tab.after HT.out K2.out)).mono ?_
    rintro e w3 ⟨rfl, B3⟩
    have K3 := Lib.hid (K2.out.trans (B3.mono K2.out.size))
    clear B3
    go_wp2
    go_ret
    exact ⟨rfl, K3.out⟩
  | true =>
    have D1 := Lib.hid (fun w => r09.days_t M w hM)
    have m1 := Cv.okM_t hM
    have fb1 := Cv.fst_bd m1.1 (by omega)
    have fb2 := Cv.fst_bd (M := M + 1) (by omega) (by omega)
    have fb3 := Cv.fst_lo m1.1 m1.2
    by_cases hx : p < 1
    · have X1 := Lib.hid (fun w T => at_of (M := M) (a := p) 0 2 w T (by simp [An.atV, An.okA_no (M := M) (a := p) (by omega)]) (by simp [An.atE, An.okA_no (M := M) (a := p) (by omega)]))
      have Y1 := Lib.hid (fun w T => at_of (M := M) (a := p) _ _ w T rfl rfl)
      clear hM m1
      generalize Cv.fst M = f at *
      generalize Cv.fst (M + 1) = g at *
      go_enter Tryd.func7, Tryd.ntmps7
      go_wp2_with fail
      refine (D1.out _).mono ?_
      rintro e w' ⟨rfl, rfl⟩
      go_wp2_with fail
      refine (X1.out _ HT.out).mono ?_
      rintro e w1 ⟨rfl, B1⟩
      have K1 := Lib.hid B1
      clear B1
      go_wp2_with fail
      refine (Y1.out _ (Tab.after HT.out K1.out)).mono ?_
      rintro e w2 ⟨rfl, B2⟩
      have K2 := Lib.hid (K1.out.trans (B2.mono K1.out.size))
      clear B2
      go_wp2_with fail
      refine (head_any _ (Tab.after HT.out K2.out)).mono ?_
      rintro e w3 ⟨rfl, B3⟩
      have K3 := Lib.hid (K2.out.trans (B3.mono K2.out.size))
      clear B3
      go_wp2
      go_ret
      exact ⟨rfl, K3.out⟩
    · by_cases hy : 31 < p
      · have Y1 := Lib.hid (fun w T => at_of (M := M) (a := p) 0 2 w T (by simp [An.atV, An.okA_no (M := M) (a := p) (by omega)]) (by simp [An.atE, An.okA_no (M := M) (a := p) (by omega)]))
        by_cases hz : 31 < p
        · have X1 := Lib.hid (fun w T => at_of (M := M) (a := p) 0 2 w T (by simp [An.atV, An.okA_no (M := M) (a := p) (by omega)]) (by simp [An.atE, An.okA_no (M := M) (a := p) (by omega)]))
          clear hM m1
          generalize Cv.fst M = f at *
          generalize Cv.fst (M + 1) = g at *
          go_enter Tryd.func7, Tryd.ntmps7
          go_wp2_with fail
          refine (D1.out _).mono ?_
          rintro e w' ⟨rfl, rfl⟩
          go_wp2_with fail
          refine (X1.out _ HT.out).mono ?_
          rintro e w1 ⟨rfl, B1⟩
          have K1 := Lib.hid B1
          clear B1
          go_wp2_with fail
          refine (Y1.out _ (Tab.after HT.out K1.out)).mono ?_
          rintro e w2 ⟨rfl, B2⟩
          have K2 := Lib.hid (K1.out.trans (B2.mono K1.out.size))
          clear B2
          go_wp2_with fail
          refine (head_any _ (Tab.after HT.out K2.out)).mono ?_
          rintro e w3 ⟨rfl, B3⟩
          have K3 := Lib.hid (K2.out.trans (B3.mono K2.out.size))
          clear B3
          go_wp2
          go_ret
          exact ⟨rfl, K3.out⟩
        · have X1 := Lib.hid (fun w T => at_of (M := M) (a := p) (An.at_ M p) 0 w T (by simp [An.atV, An.okA_mk m1.1 m1.2 (by omega : 1 ≤ p) (by omega)]) (by simp [An.atE, An.okA_mk m1.1 m1.2 (by omega : 1 ≤ p) (by omega)]))
          clear hM m1
          generalize Cv.fst M = f at *
          generalize Cv.fst (M + 1) = g at *
          generalize An.at_ M p = A at *
          go_enter Tryd.func7, Tryd.ntmps7
          go_wp2_with fail
          refine (D1.out _).mono ?_
          rintro e w' ⟨rfl, rfl⟩
          go_wp2_with fail
          refine (X1.out _ HT.out).mono ?_
          rintro e w1 ⟨rfl, B1⟩
          have K1 := Lib.hid B1
          clear B1
          go_wp2_with fail
          refine (Y1.out _ (Tab.after HT.out K1.out)).mono ?_
          rintro e w2 ⟨rfl, B2⟩
          have K2 := Lib.hid (K1.out.trans (B2.mono K1.out.size))
          clear B2
          go_wp2_with fail
          refine (head_any _ (Tab.after HT.out K2.out)).mono ?_
          rintro e w3 ⟨rfl, B3⟩
          have K3 := Lib.hid (K2.out.trans (B3.mono K2.out.size))
          clear B3
          go_wp2
          go_ret
          exact ⟨rfl, K3.out⟩
      · have X1 := Lib.hid (fun w T => at_of (M := M) (a := p) (An.at_ M p) 0 w T (by simp [An.atV, An.okA_mk m1.1 m1.2 (by omega : 1 ≤ p) (by omega)]) (by simp [An.atE, An.okA_mk m1.1 m1.2 (by omega : 1 ≤ p) (by omega)]))
        have Y1 := Lib.hid (fun w T => at_of (M := M) (a := p) (An.at_ M p) 0 w T (by simp [An.atV, An.okA_mk m1.1 m1.2 (by omega : 1 ≤ p) (by omega)]) (by simp [An.atE, An.okA_mk m1.1 m1.2 (by omega : 1 ≤ p) (by omega)]))
        have hA : An.at_ M p = min (Cv.fst M + p - 1) (Cv.fst (M + 1) - 1) := rfl
        clear hM m1
        generalize Cv.fst M = f at *
        generalize Cv.fst (M + 1) = g at *
        generalize An.at_ M p = A at *
        have y0 : A ≤ A := by omega
        have y1 : f ≤ A := by omega
        have y2 : A ≤ g - 1 := by omega
        have y3 : A < g := by omega
        by_cases hz : g - 1 < f + p - 1
        · obtain rfl : A = g - 1 := by omega
          have y4 : ¬ g - 1 = f + p - 1 := by omega
          clear hA
          go_enter Tryd.func7, Tryd.ntmps7
          go_wp2_with fail
          refine (D1.out _).mono ?_
          rintro e w' ⟨rfl, rfl⟩
          go_wp2_with fail
          refine (X1.out _ HT.out).mono ?_
          rintro e w1 ⟨rfl, B1⟩
          have K1 := Lib.hid B1
          clear B1
          go_wp2_with fail
          refine (Y1.out _ (Tab.after HT.out K1.out)).mono ?_
          rintro e w2 ⟨rfl, B2⟩
          have K2 := Lib.hid (K1.out.trans (B2.mono K1.out.size))
          clear B2
          go_wp2_with fail
          refine (head_any _ (Tab.after HT.out K2.out)).mono ?_
          rintro e w3 ⟨rfl, B3⟩
          have K3 := Lib.hid (K2.out.trans (B3.mono K2.out.size))
          clear B3
          go_wp2
          go_ret
          exact ⟨rfl, K3.out⟩
        · obtain rfl : A = f + p - 1 := by omega
          clear hA
          go_enter Tryd.func7, Tryd.ntmps7
          go_wp2_with fail
          refine (D1.out _).mono ?_
          rintro e w' ⟨rfl, rfl⟩
          go_wp2_with fail
          refine (X1.out _ HT.out).mono ?_
          rintro e w1 ⟨rfl, B1⟩
          have K1 := Lib.hid B1
          clear B1
          go_wp2_with fail
          refine (Y1.out _ (Tab.after HT.out K1.out)).mono ?_
          rintro e w2 ⟨rfl, B2⟩
          have K2 := Lib.hid (K1.out.trans (B2.mono K1.out.size))
          clear B2
          go_wp2_with fail
          refine (head_any _ (Tab.after HT.out K2.out)).mono ?_
          rintro e w3 ⟨rfl, B3⟩
          have K3 := Lib.hid (K2.out.trans (B3.mono K2.out.size))
          clear B3
          go_wp2
          go_ret
          exact ⟨rfl, K3.out⟩
theorem anchorLong (M p q : Int) (w : World) (T : Tab w) : Calls Tryd.prog 7 #[.int .i64 M, .int .i64 p, .int .i64 q] w fun e w' => e = .returned (.bool true) ∧ Below w.heap.size w w' := by
  rcases Int.lt_trichotomy p q with h | rfl | h
  · exact anchorLong_lt M p q w T h
  · exact anchorLong_eq M p w T
  · exact anchorLong_gt M p q w T h
end Go.Proofs.YtkichgbkaajaaaaDoor.law09
