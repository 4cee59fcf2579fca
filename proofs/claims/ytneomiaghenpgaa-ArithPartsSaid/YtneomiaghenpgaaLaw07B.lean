/- The statement ArithRing of chapter 07 (arith), walked: it answers true. No conditions but that numbers are of 64 bits. -/
import Derived.Test.YtneomiaghenpgaaLaw07
namespace Go.Proofs.Ytneomiaghenpgaa.law07
open Go.RowKit Go.Proofs.Ytneomiaghenpgaa.base

theorem fitV_fits (x : Int) : Ar.fits (Ar.fitV x) = true := by
  unfold Ar.fitV
  cases h : Ar.fits x
  · simp; decide
  · simp [h]
theorem fitV_of {x : Int} (h : Ar.fits x = true) : Ar.fitV x = x := by simp [Ar.fitV, h]
theorem sum3 (a b c v : Int) (i : Bool) (hv : v = Ar.fitV (a + b + c)) (hi : i = Ar.fits (a + b + c)) (ha : Ar.fits a = true) (hb : Ar.fits b = true) (hc : Ar.fits c = true) (w : World) (t d : Nat) (h0 : w.cell? ⟨t, 0, none⟩ = some (.int .i64 a)) (h1 : w.cell? ⟨t, 1, none⟩ = some (.int .i64 b)) (h2 : w.cell? ⟨t, 2, none⟩ = some (.int .i64 c)) :
    Calls Try.prog 16 #[.slice (some ⟨t, 0, none⟩) 3 d] w fun e w' => e = .returned (.tuple #[.int .i64 v, .bool i]) ∧ Below w.heap.size w w' := by
  have es : arith.sumK [a, b, c] 3 = a + b + c := by simp [arith.sumK]; omega
  refine (arith.sum_any [a, b, c] t 0 d w (by simp) ?_ ?_).mono fun _ _ ⟨p, q⟩ => ⟨p.trans (ret_ib ?_ ?_), q⟩
  · intro j hj
    have : j = 0 ∨ j = 1 ∨ j = 2 := by simp at hj; omega
    rcases this with rfl | rfl | rfl
    · simpa using h0
    · simpa using h1
    · simpa using h2
  · intro j hj
    have : j = 0 ∨ j = 1 ∨ j = 2 := by simp at hj; omega
    rcases this with rfl | rfl | rfl
    · exact ha
    · exact hb
    · exact hc
  · rw [hv, ← es]; rfl
  · rw [hi, ← es]; rfl

set_option maxRecDepth 100000 in
set_option maxHeartbeats 4000000 in
theorem arithRing (a b c : Int) (w : World) (ba : -9223372036854775808 ≤ a ∧ a ≤ 9223372036854775807) (bb : -9223372036854775808 ≤ b ∧ b ≤ 9223372036854775807) (bc : -9223372036854775808 ≤ c ∧ c ≤ 9223372036854775807) :
    Calls Try.prog 6 #[.int .i64 a, .int .i64 b, .int .i64 c] w fun e w' => e = .returned (.bool true) ∧ Below w.heap.size w w' := by
  have FA := Ar.fits_mk ba.1 ba.2
  have FB := Ar.fits_mk bb.1 bb.2
  have FC := Ar.fits_mk bc.1 bc.2
  clear ba bb bc
  obtain ⟨s, e, hs, he, S1, S2⟩ : ∃ s e, s = Ar.fitV (a + b) ∧ e = Ar.fits (a + b) ∧ (∀ w, Calls Try.prog 8 #[.int .i64 a, .int .i64 b] w fun E w' => E = .returned (.tuple #[.int .i64 s, .bool e]) ∧ Below w.heap.size w w') ∧ (∀ w, Calls Try.prog 8 #[.int .i64 b, .int .i64 a] w fun E w' => E = .returned (.tuple #[.int .i64 s, .bool e]) ∧ Below w.heap.size w w') :=
    ⟨_, _, rfl, rfl, fun w => arith.add_any a b w FA FB, fun w => by rw [Int.add_comm]; exact arith.add_any b a w FB FA⟩
  obtain ⟨p, g, hp, hg, P1, P2⟩ : ∃ p g, p = Ar.fitV (a * c) ∧ g = Ar.fits (a * c) ∧ (∀ w, Calls Try.prog 12 #[.int .i64 a, .int .i64 c] w fun E w' => E = .returned (.tuple #[.int .i64 p, .bool g]) ∧ Below w.heap.size w w') ∧ (∀ w, Calls Try.prog 12 #[.int .i64 c, .int .i64 a] w fun E w' => E = .returned (.tuple #[.int .i64 p, .bool g]) ∧ Below w.heap.size w w') :=
    ⟨_, _, rfl, rfl, fun w => arith.mul_any a c w FA FC, fun w => by rw [Int.mul_comm]; exact arith.mul_any c a w FC FA⟩
  have FS : Ar.fits s = true := by rw [hs]; exact fitV_fits _
  have FP : Ar.fits p = true := by rw [hp]; exact fitV_fits _
  obtain ⟨v, j, hv, hj, B1⟩ : ∃ v j, v = Ar.fitV (s - b) ∧ j = Ar.fits (s - b) ∧ (∀ w, Calls Try.prog 10 #[.int .i64 s, .int .i64 b] w fun E w' => E = .returned (.tuple #[.int .i64 v, .bool j]) ∧ w = w') :=
    ⟨_, _, rfl, rfl, fun w => arith.sub_any s b w FS FB⟩
  obtain ⟨r, i, hr, hi, R1⟩ : ∃ r i, r = Ar.fitV (b * c) ∧ i = Ar.fits (b * c) ∧ (∀ w, Calls Try.prog 12 #[.int .i64 b, .int .i64 c] w fun E w' => E = .returned (.tuple #[.int .i64 r, .bool i]) ∧ Below w.heap.size w w') :=
    ⟨_, _, rfl, rfl, fun w => arith.mul_any b c w FB FC⟩
  have FR : Ar.fits r = true := by rw [hr]; exact fitV_fits _
  obtain ⟨x, k, hx, hk, X1⟩ : ∃ x k, x = Ar.fitV (s * c) ∧ k = Ar.fits (s * c) ∧ (∀ w, Calls Try.prog 12 #[.int .i64 s, .int .i64 c] w fun E w' => E = .returned (.tuple #[.int .i64 x, .bool k]) ∧ Below w.heap.size w w') :=
    ⟨_, _, rfl, rfl, fun w => arith.mul_any s c w FS FC⟩
  obtain ⟨y, m, hy, hm, Y1⟩ : ∃ y m, y = Ar.fitV (p + r) ∧ m = Ar.fits (p + r) ∧ (∀ w, Calls Try.prog 8 #[.int .i64 p, .int .i64 r] w fun E w' => E = .returned (.tuple #[.int .i64 y, .bool m]) ∧ Below w.heap.size w w') :=
    ⟨_, _, rfl, rfl, fun w => arith.add_any p r w FP FR⟩
  obtain ⟨u, n, U1, U2⟩ : ∃ u n, (∀ (w : World) (t d : Nat), w.cell? ⟨t, 0, none⟩ = some (.int .i64 a) → w.cell? ⟨t, 1, none⟩ = some (.int .i64 b) → w.cell? ⟨t, 2, none⟩ = some (.int .i64 c) → Calls Try.prog 16 #[.slice (some ⟨t, 0, none⟩) 3 d] w fun E w' => E = .returned (.tuple #[.int .i64 u, .bool n]) ∧ Below w.heap.size w w') ∧ (∀ (w : World) (t d : Nat), w.cell? ⟨t, 0, none⟩ = some (.int .i64 c) → w.cell? ⟨t, 1, none⟩ = some (.int .i64 a) → w.cell? ⟨t, 2, none⟩ = some (.int .i64 b) → Calls Try.prog 16 #[.slice (some ⟨t, 0, none⟩) 3 d] w fun E w' => E = .returned (.tuple #[.int .i64 u, .bool n]) ∧ Below w.heap.size w w') :=
    ⟨_, _, fun w t d => sum3 a b c _ _ rfl rfl FA FB FC w t d, fun w t d => sum3 c a b _ _ (by rw [show a + b + c = c + a + b by omega]) (by rw [show a + b + c = c + a + b by omega]) FC FA FB w t d⟩
  have E1 : e = true → v = a ∧ j = true := fun h => by
    rw [h] at he
    have q : s - b = a := by rw [hs, fitV_of he.symm]; omega
    rw [hv, hj, q]; exact ⟨fitV_of FA, FA⟩
  have E2 : e = true → g = true → i = true → x = y ∧ k = m := fun h1 h2 h3 => by
    rw [h1] at he; rw [h2] at hg; rw [h3] at hi
    have q : s * c = p + r := by rw [hs, hp, hr, fitV_of he.symm, fitV_of hg.symm, fitV_of hi.symm, Int.add_mul]
    rw [hx, hy, hk, hm, q]; exact ⟨rfl, rfl⟩
  have HS1 := Lib.hid S1
  have HS2 := Lib.hid S2
  have HP1 := Lib.hid P1
  have HP2 := Lib.hid P2
  have HB1 := Lib.hid B1
  have HR1 := Lib.hid R1
  have HX1 := Lib.hid X1
  have HY1 := Lib.hid Y1
  have HU1 := Lib.hid U1
  have HU2 := Lib.hid U2
  clear S1 S2 P1 P2 B1 R1 X1 Y1 U1 U2 hs he hp hg hv hj hr hi hx hk hy hm FA FB FC FS FP FR
  cases e
  · clear E1 E2
    go_enter Try.func6, Try.ntmps6
    go_wp2_with fail
    refine (HS1.out _).mono ?_
    rintro e w1 ⟨rfl, B1⟩
    have K1 := Lib.hid B1
    clear B1
    go_wp2_with fail
    refine (HS2.out _).mono ?_
    rintro e w2 ⟨rfl, B2⟩
    have K2 := Lib.hid (K1.out.trans (B2.mono K1.out.size))
    clear B2
    go_wp2_with fail
    refine (HP1.out _).mono ?_
    rintro e w3 ⟨rfl, B3⟩
    have K3 := Lib.hid (K2.out.trans (B3.mono K2.out.size))
    clear B3
    go_wp2_with fail
    refine (HP2.out _).mono ?_
    rintro e w4 ⟨rfl, B4⟩
    have K4 := Lib.hid (K3.out.trans (B4.mono K3.out.size))
    clear B4
    go_wp2_with fail
    refine (HB1.out _).mono ?_
    rintro e w' ⟨rfl, rfl⟩
    go_wp2_with fail
    refine (HR1.out _).mono ?_
    rintro e w5 ⟨rfl, B5⟩
    have K5 := Lib.hid (K4.out.trans (B5.mono K4.out.size))
    clear B5
    go_wp2_with fail
    refine (HX1.out _).mono ?_
    rintro e w6 ⟨rfl, B6⟩
    have K6 := Lib.hid (K5.out.trans (B6.mono K5.out.size))
    clear B6
    go_wp2_with fail
    refine (HY1.out _).mono ?_
    rintro e w7 ⟨rfl, B7⟩
    have K7 := Lib.hid (K6.out.trans (B7.mono K6.out.size))
    clear B7
    go_wp2_with fail
    refine (HU1.out _ _ _ ?_ ?_ ?_).mono ?_
    · simp [go_sem]
    · simp [go_sem]
    · simp [go_sem]
    rintro e w8 ⟨rfl, B8⟩
    have K8 := Lib.hid ((K7.out.alloc K7.out.size _).trans (B8.mono (by have := K7.out.size; simp; omega)))
    clear B8
    go_wp2_with fail
    refine (HU2.out _ _ _ ?_ ?_ ?_).mono ?_
    · simp [go_sem]
    · simp [go_sem]
    · simp [go_sem]
    rintro e w9 ⟨rfl, B9⟩
    have K9 := Lib.hid ((K8.out.alloc K8.out.size _).trans (B9.mono (by have := K8.out.size; simp; omega)))
    clear B9
    go_wp2_with fail
    refine (head_any _).mono ?_
    rintro e w10 ⟨rfl, B10⟩
    have K10 := Lib.hid (K9.out.trans (B10.mono K9.out.size))
    clear B10
    go_wp2
    go_ret
    exact ⟨rfl, K10.out⟩
  · obtain ⟨rfl, rfl⟩ := E1 rfl
    cases g
    · clear E1 E2
      go_enter Try.func6, Try.ntmps6
      go_wp2_with fail
      refine (HS1.out _).mono ?_
      rintro e w1 ⟨rfl, B1⟩
      have K1 := Lib.hid B1
      clear B1
      go_wp2_with fail
      refine (HS2.out _).mono ?_
      rintro e w2 ⟨rfl, B2⟩
      have K2 := Lib.hid (K1.out.trans (B2.mono K1.out.size))
      clear B2
      go_wp2_with fail
      refine (HP1.out _).mono ?_
      rintro e w3 ⟨rfl, B3⟩
      have K3 := Lib.hid (K2.out.trans (B3.mono K2.out.size))
      clear B3
      go_wp2_with fail
      refine (HP2.out _).mono ?_
      rintro e w4 ⟨rfl, B4⟩
      have K4 := Lib.hid (K3.out.trans (B4.mono K3.out.size))
      clear B4
      go_wp2_with fail
      refine (HB1.out _).mono ?_
      rintro e w' ⟨rfl, rfl⟩
      go_wp2_with fail
      refine (HR1.out _).mono ?_
      rintro e w5 ⟨rfl, B5⟩
      have K5 := Lib.hid (K4.out.trans (B5.mono K4.out.size))
      clear B5
      go_wp2_with fail
      refine (HX1.out _).mono ?_
      rintro e w6 ⟨rfl, B6⟩
      have K6 := Lib.hid (K5.out.trans (B6.mono K5.out.size))
      clear B6
      go_wp2_with fail
      refine (HY1.out _).mono ?_
      rintro e w7 ⟨rfl, B7⟩
      have K7 := Lib.hid (K6.out.trans (B7.mono K6.out.size))
      clear B7
      go_wp2_with fail
      refine (HU1.out _ _ _ ?_ ?_ ?_).mono ?_
      · simp [go_sem]
      · simp [go_sem]
      · simp [go_sem]
      rintro e w8 ⟨rfl, B8⟩
      have K8 := Lib.hid ((K7.out.alloc K7.out.size _).trans (B8.mono (by have := K7.out.size; simp; omega)))
      clear B8
      go_wp2_with fail
      refine (HU2.out _ _ _ ?_ ?_ ?_).mono ?_
      · simp [go_sem]
      · simp [go_sem]
      · simp [go_sem]
      rintro e w9 ⟨rfl, B9⟩
      have K9 := Lib.hid ((K8.out.alloc K8.out.size _).trans (B9.mono (by have := K8.out.size; simp; omega)))
      clear B9
      go_wp2_with fail
      refine (head_any _).mono ?_
      rintro e w10 ⟨rfl, B10⟩
      have K10 := Lib.hid (K9.out.trans (B10.mono K9.out.size))
      clear B10
      go_wp2
      go_ret
      exact ⟨rfl, K10.out⟩
    · cases i
      · clear E1 E2
        go_enter Try.func6, Try.ntmps6
        go_wp2_with fail
        refine (HS1.out _).mono ?_
        rintro e w1 ⟨rfl, B1⟩
        have K1 := Lib.hid B1
        clear B1
        go_wp2_with fail
        refine (HS2.out _).mono ?_
        rintro e w2 ⟨rfl, B2⟩
        have K2 := Lib.hid (K1.out.trans (B2.mono K1.out.size))
        clear B2
        go_wp2_with fail
        refine (HP1.out _).mono ?_
        rintro e w3 ⟨rfl, B3⟩
        have K3 := Lib.hid (K2.out.trans (B3.mono K2.out.size))
        clear B3
        go_wp2_with fail
        refine (HP2.out _).mono ?_
        rintro e w4 ⟨rfl, B4⟩
        have K4 := Lib.hid (K3.out.trans (B4.mono K3.out.size))
        clear B4
        go_wp2_with fail
        refine (HB1.out _).mono ?_
        rintro e w' ⟨rfl, rfl⟩
        go_wp2_with fail
        refine (HR1.out _).mono ?_
        rintro e w5 ⟨rfl, B5⟩
        have K5 := Lib.hid (K4.out.trans (B5.mono K4.out.size))
        clear B5
        go_wp2_with fail
        refine (HX1.out _).mono ?_
        rintro e w6 ⟨rfl, B6⟩
        have K6 := Lib.hid (K5.out.trans (B6.mono K5.out.size))
        clear B6
        go_wp2_with fail
        refine (HY1.out _).mono ?_
        rintro e w7 ⟨rfl, B7⟩
        have K7 := Lib.hid (K6.out.trans (B7.mono K6.out.size))
        clear B7
        go_wp2_with fail
        refine (HU1.out _ _ _ ?_ ?_ ?_).mono ?_
        · simp [go_sem]
        · simp [go_sem]
        · simp [go_sem]
        rintro e w8 ⟨rfl, B8⟩
        have K8 := Lib.hid ((K7.out.alloc K7.out.size _).trans (B8.mono (by have := K7.out.size; simp; omega)))
        clear B8
        go_wp2_with fail
        refine (HU2.out _ _ _ ?_ ?_ ?_).mono ?_
        · simp [go_sem]
        · simp [go_sem]
        · simp [go_sem]
        rintro e w9 ⟨rfl, B9⟩
        have K9 := Lib.hid ((K8.out.alloc K8.out.size _).trans (B9.mono (by have := K8.out.size; simp; omega)))
        clear B9
        go_wp2_with fail
        refine (head_any _).mono ?_
        rintro e w10 ⟨rfl, B10⟩
        have K10 := Lib.hid (K9.out.trans (B10.mono K9.out.size))
        clear B10
        go_wp2
        go_ret
        exact ⟨rfl, K10.out⟩
      · obtain ⟨rfl, rfl⟩ := E2 rfl rfl rfl
        clear E1 E2
        go_enter Try.func6, Try.ntmps6
        go_wp2_with fail
        refine (HS1.out _).mono ?_
        rintro e w1 ⟨rfl, B1⟩
        have K1 := Lib.hid B1
        clear B1
        go_wp2_with fail
        refine (HS2.out _).mono ?_
        rintro e w2 ⟨rfl, B2⟩
        have K2 := Lib.hid (K1.out.trans (B2.mono K1.out.size))
        clear B2
        go_wp2_with fail
        refine (HP1.out _).mono ?_
        rintro e w3 ⟨rfl, B3⟩
        have K3 := Lib.hid (K2.out.trans (B3.mono K2.out.size))
        clear B3
        go_wp2_with fail
        refine (HP2.out _).mono ?_
        rintro e w4 ⟨rfl, B4⟩
        have K4 := Lib.hid (K3.out.trans (B4.mono K3.out.size))
        clear B4
        go_wp2_with fail
        refine (HB1.out _).mono ?_
        rintro e w' ⟨rfl, rfl⟩
        go_wp2_with fail
        refine (HR1.out _).mono ?_
        rintro e w5 ⟨rfl, B5⟩
        have K5 := Lib.hid (K4.out.trans (B5.mono K4.out.size))
        clear B5
        go_wp2_with fail
        refine (HX1.out _).mono ?_
        rintro e w6 ⟨rfl, B6⟩
        have K6 := Lib.hid (K5.out.trans (B6.mono K5.out.size))
        clear B6
        go_wp2_with fail
        refine (HY1.out _).mono ?_
        rintro e w7 ⟨rfl, B7⟩
        have K7 := Lib.hid (K6.out.trans (B7.mono K6.out.size))
        clear B7
        go_wp2_with fail
        refine (HU1.out _ _ _ ?_ ?_ ?_).mono ?_
        · simp [go_sem]
        · simp [go_sem]
        · simp [go_sem]
        rintro e w8 ⟨rfl, B8⟩
        have K8 := Lib.hid ((K7.out.alloc K7.out.size _).trans (B8.mono (by have := K7.out.size; simp; omega)))
        clear B8
        go_wp2_with fail
        refine (HU2.out _ _ _ ?_ ?_ ?_).mono ?_
        · simp [go_sem]
        · simp [go_sem]
        · simp [go_sem]
        rintro e w9 ⟨rfl, B9⟩
        have K9 := Lib.hid ((K8.out.alloc K8.out.size _).trans (B9.mono (by have := K8.out.size; simp; omega)))
        clear B9
        go_wp2_with fail
        refine (head_any _).mono ?_
        rintro e w10 ⟨rfl, B10⟩
        have K10 := Lib.hid (K9.out.trans (B10.mono K9.out.size))
        clear B10
        go_wp2
        go_ret
        exact ⟨rfl, K10.out⟩
end Go.Proofs.Ytneomiaghenpgaa.law07
