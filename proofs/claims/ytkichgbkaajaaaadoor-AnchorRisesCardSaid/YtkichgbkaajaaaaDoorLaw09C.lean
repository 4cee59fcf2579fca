/- The statement AnchorRises of chapter 09, walked: it answers true. The table of the days ahead of months holds its numbers. -/
import Derived.Test.YtkichgbkaajaaaaDoorLaw09B
namespace Go.Proofs.YtkichgbkaajaaaaDoor.law09
open Go.RowKit Go.Proofs.YtkichgbkaajaaaaDoor.base Go.Proofs.YtkichgbkaajaaaaDoor.anch
open Go.Proofs.YtkichgbkaajaaaaDoor.civ (Tab ret_four)

theorem of_is {d : Int} (M : Int) (w : World) (h : Cv.okD d = true) (h1 : Cv.ofD d = M) : Calls Tryd.prog 17 #[.int .i64 d] w fun e w' => e = .returned (.tuple #[.int .i64 M, .int .i64 0]) ∧ w = w' := by
  subst h1
  exact (ref08.of_any d w).mono fun _ _ ⟨p, q⟩ => ⟨p.trans (ret_two (by simp [Cv.ofV, h]) (by simp [Cv.dE, h])), q⟩
set_option maxRecDepth 100000 in
set_option maxHeartbeats 1000000 in
theorem rises_no (s a E k x v : Int) (w : World) (T : Tab w) (h1 : An.bV s a E k = 0) (h2 : An.bE s a E k = v) (hv : ¬ v = 0) : Calls Tryd.prog 6 #[cyc s a E, .int .i64 k, .int .i64 x] w fun e w' => e = .returned (.bool true) ∧ Below w.heap.size w w' := by
  have HT := Lib.hid T
  have C1 := Lib.hid (fun w T => bound_is (s := s) (a := a) (E := E) (k := k) 0 v w T h1 h2)
  clear T h1 h2
  go_enter Tryd.func6, Tryd.ntmps6
  go_wp2_with fail
  refine (C1.out _ (Tab.after HT.out ((Below.refl _ _).alloc (Nat.le_refl _) _))).mono ?_
  rintro e w1 ⟨rfl, B1⟩
  have K1 := Lib.hid (((Below.refl _ _).alloc (Nat.le_refl _) _).trans (B1.mono (by simp)))
  obtain ⟨c0, c1, c2⟩ := (show Cyc w.heap.size s a E (w.alloc (.cells #[.int .i64 s, .int .i64 a, .int .i64 E] 23)) from ⟨by simp [go_sem], by simp [go_sem], by simp [go_sem]⟩).after B1
  clear B1
  go_wp2_with fail
  refine (head_any _ (Tab.after HT.out K1.out)).mono ?_
  rintro e w2 ⟨rfl, B2⟩
  have K2 := Lib.hid (K1.out.trans (B2.mono K1.out.size))
  obtain ⟨c0, c1, c2⟩ := Cyc.after ⟨c0, c1, c2⟩ B2
  clear B2
  go_wp2
  go_ret
  exact ⟨rfl, K2.out⟩
set_option maxRecDepth 100000 in
set_option maxHeartbeats 1000000 in
theorem rises_last (s a E k x A : Int) (w : World) (T : Tab w) (h1 : An.bV s a E k = A) (h2 : An.bE s a E k = 0) (h3 : An.bV s a E (k + 1) = 0) (h4 : An.bE s a E (k + 1) = 7) (h5 : An.fOk s a E A = true) (h6 : An.fIn s a E A = false) (k0 : 0 ≤ k) (k1 : k ≤ 119988) : Calls Tryd.prog 6 #[cyc s a E, .int .i64 k, .int .i64 x] w fun e w' => e = .returned (.bool true) ∧ Below w.heap.size w w' := by
  have HT := Lib.hid T
  have C1 := Lib.hid (fun w T => bound_is (s := s) (a := a) (E := E) (k := k) A 0 w T h1 h2)
  have C2 := Lib.hid (fun w T => bound_is (s := s) (a := a) (E := E) (k := k + 1) 0 7 w T h3 h4)
  have C3 := Lib.hid (fun w T => find_no (s := s) (a := a) (E := E) (d := A) w T h5 h6)
  clear T h1 h2 h3 h4 h5 h6
  go_enter Tryd.func6, Tryd.ntmps6
  go_wp2_with fail
  refine (C1.out _ (Tab.after HT.out ((Below.refl _ _).alloc (Nat.le_refl _) _))).mono ?_
  rintro e w1 ⟨rfl, B1⟩
  have K1 := Lib.hid (((Below.refl _ _).alloc (Nat.le_refl _) _).trans (B1.mono (by simp)))
  obtain ⟨c0, c1, c2⟩ := (show Cyc w.heap.size s a E (w.alloc (.cells #[.int .i64 s, .int .i64 a, .int .i64 E] 23)) from ⟨by simp [go_sem], by simp [go_sem], by simp [go_sem]⟩).after B1
  clear B1
  go_wp2_with fail
  refine (C2.out _ (Tab.after HT.out K1.out)).mono ?_
  rintro e w2 ⟨rfl, B2⟩
  have K2 := Lib.hid (K1.out.trans (B2.mono K1.out.size))
  obtain ⟨c0, c1, c2⟩ := Cyc.after ⟨c0, c1, c2⟩ B2
  clear B2
  go_wp2_with fail
  refine (C3.out _ (Tab.after HT.out K2.out)).mono ?_
  rintro e w3 ⟨rfl, B3⟩
  have K3 := Lib.hid (K2.out.trans (B3.mono K2.out.size))
  obtain ⟨c0, c1, c2⟩ := Cyc.after ⟨c0, c1, c2⟩ B3
  clear B3
  go_wp2_with fail
  refine (head_any _ (Tab.after HT.out K3.out)).mono ?_
  rintro e w4 ⟨rfl, B4⟩
  have K4 := Lib.hid (K3.out.trans (B4.mono K3.out.size))
  obtain ⟨c0, c1, c2⟩ := Cyc.after ⟨c0, c1, c2⟩ B4
  clear B4
  go_wp2
  go_ret
  exact ⟨rfl, K4.out⟩
set_option maxRecDepth 100000 in
set_option maxHeartbeats 1000000 in
theorem rises_yes (s a E k x A B M N : Int) (w : World) (T : Tab w) (h1 : An.bV s a E k = A) (h2 : An.bE s a E k = 0) (h3 : An.bV s a E (k + 1) = B) (h4 : An.bE s a E (k + 1) = 0)
    (hM : Cv.ofD A = M) (hN : Cv.ofD B = N) (hA : Cv.okD A = true) (hB : Cv.okD B = true) (hat : An.okA N a = true) (hat2 : An.at_ N a = B)
    (hf : ∀ d, A ≤ d → d < B → An.fOk s a E d = true ∧ An.fIn s a E d = true ∧ An.fk s a E d = k) (hBk : An.B s a E k = A) (hBk1 : An.B s a E (k + 1) = B)
    (k0 : 0 ≤ k) (k1 : k ≤ 119988) (ab : A < B) (a31 : B - A ≤ 31 * E) (m1 : 1 ≤ M) (m2 : M ≤ 119988) (_n1 : 1 ≤ N) (_n2 : N ≤ 119988) (e1 : 1 ≤ E) (e2 : E ≤ 120)
    (hk : 1 ≤ k → N - M = E) (hz : k = 0 → N = M ∨ (¬ N = M ∧ N - M = E)) : Calls Tryd.prog 6 #[cyc s a E, .int .i64 k, .int .i64 x] w fun e w' => e = .returned (.bool true) ∧ Below w.heap.size w w' := by
  have HT := Lib.hid T
  have a1 := Cv.okD_t hA
  have b1 := Cv.okD_t hB
  have C1 := Lib.hid (fun w T => bound_is (s := s) (a := a) (E := E) (k := k) A 0 w T h1 h2)
  have C2 := Lib.hid (fun w T => bound_is (s := s) (a := a) (E := E) (k := k + 1) B 0 w T h3 h4)
  have C3 := Lib.hid (fun w => of_is M w hA hM)
  have C4 := Lib.hid (fun w => of_is N w hB hN)
  have C5 := Lib.hid (fun w T => at_of (M := N) (a := a) B 0 w T (by simp [An.atV, hat, hat2]) (by simp [An.atE, hat]))
  have C6 := Lib.hid (fun (d : Int) (g1 : A ≤ d) (g2 : d < B) (w : World) (T : Tab w) => (find_any s a E d w T).mono fun _ _ ⟨p, q⟩ => And.intro (p.trans (ret_four (a := An.fV s a E d (An.fk s a E d)) (b := k) (by simp [An.fV, (hf d g1 g2).2.1, (hf d g1 g2).2.2]) (c := An.fV s a E d (An.B s a E (An.fk s a E d))) (d := A) (by simp [An.fV, (hf d g1 g2).2.1, (hf d g1 g2).2.2, hBk]) (e := An.fV s a E d (An.B s a E (An.fk s a E d + 1))) (f := B) (by simp [An.fV, (hf d g1 g2).2.1, (hf d g1 g2).2.2, hBk1]) (g := An.fE s a E d) (h := 0) (by simp [An.fE, (hf d g1 g2).1, (hf d g1 g2).2.1]))) q)
  have r1 : x.tmod (B - A) < B - A := Int.tmod_lt_of_pos _ (by omega)
  have r2 : -(B - A) < x.tmod (B - A) := Int.lt_tmod_of_pos _ (by omega)
  have r3 : ¬ B - A = 0 := by omega
  clear T h1 h2 h3 h4 hM hN hA hB hat hat2 hf hBk hBk1
  obtain ⟨R, hR⟩ : ∃ R, x.tmod (B - A) = R := ⟨_, rfl⟩
  rw [hR] at r1 r2
  rcases (by omega : k = 0 ∨ 1 ≤ k) with rfl | hk1
  · rcases hz rfl with rfl | ⟨hz1, hz2⟩
    · clear hk hz
      by_cases hr : R < 0
      · go_enter Tryd.func6, Tryd.ntmps6
        go_wp2_with fail
        refine (C1.out _ (Tab.after HT.out ((Below.refl _ _).alloc (Nat.le_refl _) _))).mono ?_
        rintro e w1 ⟨rfl, B1⟩
        have K1 := Lib.hid (((Below.refl _ _).alloc (Nat.le_refl _) _).trans (B1.mono (by simp)))
        obtain ⟨c0, c1, c2⟩ := (show Cyc w.heap.size s a E (w.alloc (.cells #[.int .i64 s, .int .i64 a, .int .i64 E] 23)) from ⟨by simp [go_sem], by simp [go_sem], by simp [go_sem]⟩).after B1
        clear B1
        go_wp2_with fail
        refine (C2.out _ (Tab.after HT.out K1.out)).mono ?_
        rintro e w2 ⟨rfl, B2⟩
        have K2 := Lib.hid (K1.out.trans (B2.mono K1.out.size))
        obtain ⟨c0, c1, c2⟩ := Cyc.after ⟨c0, c1, c2⟩ B2
        clear B2
        go_wp2_with fail
        refine (C3.out _).mono ?_
        rintro e w' ⟨rfl, rfl⟩
        go_wp2_with fail
        refine (C4.out _).mono ?_
        rintro e w' ⟨rfl, rfl⟩
        go_wp2_with fail
        refine (C5.out _ (Tab.after HT.out K2.out)).mono ?_
        rintro e w3 ⟨rfl, B3⟩
        have K3 := Lib.hid (K2.out.trans (B3.mono K2.out.size))
        obtain ⟨c0, c1, c2⟩ := Cyc.after ⟨c0, c1, c2⟩ B3
        clear B3
        go_wp2_with fail
        refine (C6.out _ (by omega) (by omega) _ (Tab.after HT.out K3.out)).mono ?_
        rintro e w4 ⟨rfl, B4⟩
        have K4 := Lib.hid (K3.out.trans (B4.mono K3.out.size))
        obtain ⟨c0, c1, c2⟩ := Cyc.after ⟨c0, c1, c2⟩ B4
        clear B4
        go_wp2_with fail
        refine (head_any _ (Tab.after HT.out K4.out)).mono ?_
        rintro e w5 ⟨rfl, B5⟩
        have K5 := Lib.hid (K4.out.trans (B5.mono K4.out.size))
        obtain ⟨c0, c1, c2⟩ := Cyc.after ⟨c0, c1, c2⟩ B5
        clear B5
        go_wp2
        go_ret
        exact ⟨rfl, K5.out⟩
      · go_enter Tryd.func6, Tryd.ntmps6
        go_wp2_with fail
        refine (C1.out _ (Tab.after HT.out ((Below.refl _ _).alloc (Nat.le_refl _) _))).mono ?_
        rintro e w1 ⟨rfl, B1⟩
        have K1 := Lib.hid (((Below.refl _ _).alloc (Nat.le_refl _) _).trans (B1.mono (by simp)))
        obtain ⟨c0, c1, c2⟩ := (show Cyc w.heap.size s a E (w.alloc (.cells #[.int .i64 s, .int .i64 a, .int .i64 E] 23)) from ⟨by simp [go_sem], by simp [go_sem], by simp [go_sem]⟩).after B1
        clear B1
        go_wp2_with fail
        refine (C2.out _ (Tab.after HT.out K1.out)).mono ?_
        rintro e w2 ⟨rfl, B2⟩
        have K2 := Lib.hid (K1.out.trans (B2.mono K1.out.size))
        obtain ⟨c0, c1, c2⟩ := Cyc.after ⟨c0, c1, c2⟩ B2
        clear B2
        go_wp2_with fail
        refine (C3.out _).mono ?_
        rintro e w' ⟨rfl, rfl⟩
        go_wp2_with fail
        refine (C4.out _).mono ?_
        rintro e w' ⟨rfl, rfl⟩
        go_wp2_with fail
        refine (C5.out _ (Tab.after HT.out K2.out)).mono ?_
        rintro e w3 ⟨rfl, B3⟩
        have K3 := Lib.hid (K2.out.trans (B3.mono K2.out.size))
        obtain ⟨c0, c1, c2⟩ := Cyc.after ⟨c0, c1, c2⟩ B3
        clear B3
        go_wp2_with fail
        refine (C6.out _ (by omega) (by omega) _ (Tab.after HT.out K3.out)).mono ?_
        rintro e w4 ⟨rfl, B4⟩
        have K4 := Lib.hid (K3.out.trans (B4.mono K3.out.size))
        obtain ⟨c0, c1, c2⟩ := Cyc.after ⟨c0, c1, c2⟩ B4
        clear B4
        go_wp2_with fail
        refine (head_any _ (Tab.after HT.out K4.out)).mono ?_
        rintro e w5 ⟨rfl, B5⟩
        have K5 := Lib.hid (K4.out.trans (B5.mono K4.out.size))
        obtain ⟨c0, c1, c2⟩ := Cyc.after ⟨c0, c1, c2⟩ B5
        clear B5
        go_wp2
        go_ret
        exact ⟨rfl, K5.out⟩
    · clear hk hz
      by_cases hr : R < 0
      · go_enter Tryd.func6, Tryd.ntmps6
        go_wp2_with fail
        refine (C1.out _ (Tab.after HT.out ((Below.refl _ _).alloc (Nat.le_refl _) _))).mono ?_
        rintro e w1 ⟨rfl, B1⟩
        have K1 := Lib.hid (((Below.refl _ _).alloc (Nat.le_refl _) _).trans (B1.mono (by simp)))
        obtain ⟨c0, c1, c2⟩ := (show Cyc w.heap.size s a E (w.alloc (.cells #[.int .i64 s, .int .i64 a, .int .i64 E] 23)) from ⟨by simp [go_sem], by simp [go_sem], by simp [go_sem]⟩).after B1
        clear B1
        go_wp2_with fail
        refine (C2.out _ (Tab.after HT.out K1.out)).mono ?_
        rintro e w2 ⟨rfl, B2⟩
        have K2 := Lib.hid (K1.out.trans (B2.mono K1.out.size))
        obtain ⟨c0, c1, c2⟩ := Cyc.after ⟨c0, c1, c2⟩ B2
        clear B2
        go_wp2_with fail
        refine (C3.out _).mono ?_
        rintro e w' ⟨rfl, rfl⟩
        go_wp2_with fail
        refine (C4.out _).mono ?_
        rintro e w' ⟨rfl, rfl⟩
        go_wp2_with fail
        refine (C5.out _ (Tab.after HT.out K2.out)).mono ?_
        rintro e w3 ⟨rfl, B3⟩
        have K3 := Lib.hid (K2.out.trans (B3.mono K2.out.size))
        obtain ⟨c0, c1, c2⟩ := Cyc.after ⟨c0, c1, c2⟩ B3
        clear B3
        go_wp2_with fail
        refine (C6.out _ (by omega) (by omega) _ (Tab.after HT.out K3.out)).mono ?_
        rintro e w4 ⟨rfl, B4⟩
        have K4 := Lib.hid (K3.out.trans (B4.mono K3.out.size))
        obtain ⟨c0, c1, c2⟩ := Cyc.after ⟨c0, c1, c2⟩ B4
        clear B4
        go_wp2_with fail
        refine (head_any _ (Tab.after HT.out K4.out)).mono ?_
        rintro e w5 ⟨rfl, B5⟩
        have K5 := Lib.hid (K4.out.trans (B5.mono K4.out.size))
        obtain ⟨c0, c1, c2⟩ := Cyc.after ⟨c0, c1, c2⟩ B5
        clear B5
        go_wp2
        go_ret
        exact ⟨rfl, K5.out⟩
      · go_enter Tryd.func6, Tryd.ntmps6
        go_wp2_with fail
        refine (C1.out _ (Tab.after HT.out ((Below.refl _ _).alloc (Nat.le_refl _) _))).mono ?_
        rintro e w1 ⟨rfl, B1⟩
        have K1 := Lib.hid (((Below.refl _ _).alloc (Nat.le_refl _) _).trans (B1.mono (by simp)))
        obtain ⟨c0, c1, c2⟩ := (show Cyc w.heap.size s a E (w.alloc (.cells #[.int .i64 s, .int .i64 a, .int .i64 E] 23)) from ⟨by simp [go_sem], by simp [go_sem], by simp [go_sem]⟩).after B1
        clear B1
        go_wp2_with fail
        refine (C2.out _ (Tab.after HT.out K1.out)).mono ?_
        rintro e w2 ⟨rfl, B2⟩
        have K2 := Lib.hid (K1.out.trans (B2.mono K1.out.size))
        obtain ⟨c0, c1, c2⟩ := Cyc.after ⟨c0, c1, c2⟩ B2
        clear B2
        go_wp2_with fail
        refine (C3.out _).mono ?_
        rintro e w' ⟨rfl, rfl⟩
        go_wp2_with fail
        refine (C4.out _).mono ?_
        rintro e w' ⟨rfl, rfl⟩
        go_wp2_with fail
        refine (C5.out _ (Tab.after HT.out K2.out)).mono ?_
        rintro e w3 ⟨rfl, B3⟩
        have K3 := Lib.hid (K2.out.trans (B3.mono K2.out.size))
        obtain ⟨c0, c1, c2⟩ := Cyc.after ⟨c0, c1, c2⟩ B3
        clear B3
        go_wp2_with fail
        refine (C6.out _ (by omega) (by omega) _ (Tab.after HT.out K3.out)).mono ?_
        rintro e w4 ⟨rfl, B4⟩
        have K4 := Lib.hid (K3.out.trans (B4.mono K3.out.size))
        obtain ⟨c0, c1, c2⟩ := Cyc.after ⟨c0, c1, c2⟩ B4
        clear B4
        go_wp2_with fail
        refine (head_any _ (Tab.after HT.out K4.out)).mono ?_
        rintro e w5 ⟨rfl, B5⟩
        have K5 := Lib.hid (K4.out.trans (B5.mono K4.out.size))
        obtain ⟨c0, c1, c2⟩ := Cyc.after ⟨c0, c1, c2⟩ B5
        clear B5
        go_wp2
        go_ret
        exact ⟨rfl, K5.out⟩
  · have hz2 := hk hk1
    clear hk hz
    have hk2 : 0 < k := by omega
    have hk3 : ¬ k = 0 := by omega
    by_cases hr : R < 0
    · go_enter Tryd.func6, Tryd.ntmps6
      go_wp2_with fail
      refine (C1.out _ (Tab.after HT.out ((Below.refl _ _).alloc (Nat.le_refl _) _))).mono ?_
      rintro e w1 ⟨rfl, B1⟩
      have K1 := Lib.hid (((Below.refl _ _).alloc (Nat.le_refl _) _).trans (B1.mono (by simp)))
      obtain ⟨c0, c1, c2⟩ := (show Cyc w.heap.size s a E (w.alloc (.cells #[.int .i64 s, .int .i64 a, .int .i64 E] 23)) from ⟨by simp [go_sem], by simp [go_sem], by simp [go_sem]⟩).after B1
      clear B1
      go_wp2_with fail
      refine (C2.out _ (Tab.after HT.out K1.out)).mono ?_
      rintro e w2 ⟨rfl, B2⟩
      have K2 := Lib.hid (K1.out.trans (B2.mono K1.out.size))
      obtain ⟨c0, c1, c2⟩ := Cyc.after ⟨c0, c1, c2⟩ B2
      clear B2
      go_wp2_with fail
      refine (C3.out _).mono ?_
      rintro e w' ⟨rfl, rfl⟩
      go_wp2_with fail
      refine (C4.out _).mono ?_
      rintro e w' ⟨rfl, rfl⟩
      go_wp2_with fail
      refine (C5.out _ (Tab.after HT.out K2.out)).mono ?_
      rintro e w3 ⟨rfl, B3⟩
      have K3 := Lib.hid (K2.out.trans (B3.mono K2.out.size))
      obtain ⟨c0, c1, c2⟩ := Cyc.after ⟨c0, c1, c2⟩ B3
      clear B3
      go_wp2_with fail
      refine (C6.out _ (by omega) (by omega) _ (Tab.after HT.out K3.out)).mono ?_
      rintro e w4 ⟨rfl, B4⟩
      have K4 := Lib.hid (K3.out.trans (B4.mono K3.out.size))
      obtain ⟨c0, c1, c2⟩ := Cyc.after ⟨c0, c1, c2⟩ B4
      clear B4
      go_wp2_with fail
      refine (head_any _ (Tab.after HT.out K4.out)).mono ?_
      rintro e w5 ⟨rfl, B5⟩
      have K5 := Lib.hid (K4.out.trans (B5.mono K4.out.size))
      obtain ⟨c0, c1, c2⟩ := Cyc.after ⟨c0, c1, c2⟩ B5
      clear B5
      go_wp2
      go_ret
      exact ⟨rfl, K5.out⟩
    · go_enter Tryd.func6, Tryd.ntmps6
      go_wp2_with fail
      refine (C1.out _ (Tab.after HT.out ((Below.refl _ _).alloc (Nat.le_refl _) _))).mono ?_
      rintro e w1 ⟨rfl, B1⟩
      have K1 := Lib.hid (((Below.refl _ _).alloc (Nat.le_refl _) _).trans (B1.mono (by simp)))
      obtain ⟨c0, c1, c2⟩ := (show Cyc w.heap.size s a E (w.alloc (.cells #[.int .i64 s, .int .i64 a, .int .i64 E] 23)) from ⟨by simp [go_sem], by simp [go_sem], by simp [go_sem]⟩).after B1
      clear B1
      go_wp2_with fail
      refine (C2.out _ (Tab.after HT.out K1.out)).mono ?_
      rintro e w2 ⟨rfl, B2⟩
      have K2 := Lib.hid (K1.out.trans (B2.mono K1.out.size))
      obtain ⟨c0, c1, c2⟩ := Cyc.after ⟨c0, c1, c2⟩ B2
      clear B2
      go_wp2_with fail
      refine (C3.out _).mono ?_
      rintro e w' ⟨rfl, rfl⟩
      go_wp2_with fail
      refine (C4.out _).mono ?_
      rintro e w' ⟨rfl, rfl⟩
      go_wp2_with fail
      refine (C5.out _ (Tab.after HT.out K2.out)).mono ?_
      rintro e w3 ⟨rfl, B3⟩
      have K3 := Lib.hid (K2.out.trans (B3.mono K2.out.size))
      obtain ⟨c0, c1, c2⟩ := Cyc.after ⟨c0, c1, c2⟩ B3
      clear B3
      go_wp2_with fail
      refine (C6.out _ (by omega) (by omega) _ (Tab.after HT.out K3.out)).mono ?_
      rintro e w4 ⟨rfl, B4⟩
      have K4 := Lib.hid (K3.out.trans (B4.mono K3.out.size))
      obtain ⟨c0, c1, c2⟩ := Cyc.after ⟨c0, c1, c2⟩ B4
      clear B4
      go_wp2_with fail
      refine (head_any _ (Tab.after HT.out K4.out)).mono ?_
      rintro e w5 ⟨rfl, B5⟩
      have K5 := Lib.hid (K4.out.trans (B5.mono K4.out.size))
      obtain ⟨c0, c1, c2⟩ := Cyc.after ⟨c0, c1, c2⟩ B5
      clear B5
      go_wp2
      go_ret
      exact ⟨rfl, K5.out⟩
theorem anchorRises (s a E k x : Int) (w : World) (T : Tab w) : Calls Tryd.prog 6 #[cyc s a E, .int .i64 k, .int .i64 x] w fun e w' => e = .returned (.bool true) ∧ Below w.heap.size w w' := by
  cases hb : An.bOk s a E k with
  | false => exact rises_no s a E k x 2 w T (by simp [An.bV, hb]) (by simp [An.bE, hb]) (by decide)
  | true =>
    have hok : An.ok s a E = true := by unfold An.bOk at hb; simp at hb; exact hb.1
    have h0 : 0 ≤ k := by unfold An.bOk at hb; simp at hb; exact hb.2
    have ht := An.top_bd hok
    have hb1 : An.bOk s a E (k + 1) = true := by unfold An.bOk; simp [hok]; omega
    obtain ⟨⟨g1, g2⟩, ⟨g3, g4⟩, g5, g6⟩ := An.ok_t hok
    by_cases hk : k ≤ An.top s a E
    · have v1 : An.bV s a E k = An.B s a E k := by simp [An.bV, hb, hk]
      have v2 : An.bE s a E k = 0 := by simp [An.bE, hb, hk]
      by_cases hk1 : k + 1 ≤ An.top s a E
      · have bd0 := An.B_bd hok h0 hk
        have bd1 := An.B_bd hok (i := k + 1) (by omega) hk1
        have hN := An.B_of hok (i := k + 1) (by omega) hk1
        have mb := An.mon_bd hok (An.k0_le (i := k + 1) (by omega)) hk1
        have om := Cv.ofD_spec bd0.1 bd0.2
        refine rises_yes s a E k x (An.B s a E k) (An.B s a E (k + 1)) (Cv.ofD (An.B s a E k)) (An.mon s a E (k + 1)) w T v1 v2 (by simp [An.bV, hb1, hk1]) (by simp [An.bE, hb1, hk1]) rfl hN (Cv.okD_mk bd0.1 bd0.2) (Cv.okD_mk bd1.1 bd1.2)
          (An.okA_mk mb.1 mb.2.2 g3 g4) (An.B_pos (by omega)).symm (fun d d1 d2 => An.f_in hok h0 hk1 d1 d2) rfl rfl h0 (by omega) (An.B_lt hok h0 hk1) (An.B_31 hok h0 hk1) om.1 om.2.1 mb.1 mb.2.2 g5 g6 ?_ ?_
        · intro h1
          rw [An.B_of hok h1 hk, An.mon_succ]; omega
        · rintro rfl
          rw [An.B_zero]
          rcases An.mon_one (s := s) (a := a) (E := E) with q | q
          · left; simpa using q
          · right; rw [show (0 : Int) + 1 = 1 from rfl, q]; omega
      · have hkt : k = An.top s a E := by omega
        have bd0 := An.B_bd hok h0 hk
        obtain ⟨f1, f2⟩ := An.f_out hok (d := An.B s a E k) bd0.2 (by rw [← hkt]; exact Int.le_refl _)
        exact rises_last s a E k x _ w T v1 v2 (by simp [An.bV, hk1]) (by simp [An.bE, hb1, hk1]) f1 f2 h0 (by omega)
    · exact rises_no s a E k x 7 w T (by simp [An.bV, hk]) (by simp [An.bE, hb, hk]) (by decide)
end Go.Proofs.YtkichgbkaajaaaaDoor.law09
