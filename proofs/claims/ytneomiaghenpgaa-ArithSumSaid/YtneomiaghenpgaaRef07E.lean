/- What MulDiv, Near and Sum of package quittanceref07 answer (walks). No conditions but that numbers are of 64 bits; of sums: at most 4096 numbers. -/
import Derived.Test.YtneomiaghenpgaaRef07D
namespace Go.Proofs.Ytneomiaghenpgaa.ref07
open Go.RowKit Go.Proofs.Ytneomiaghenpgaa.base

theorem rng_127 {x : Int} (h : -(2 ^ 127) ≤ x ∧ x ≤ 2 ^ 127) : -(2 ^ 135) ≤ x ∧ x < 2 ^ 135 := by
  have e127 : (2 : Int) ^ 127 = 170141183460469231731687303715884105728 := by decide
  rw [pow_top]; rw [e127] at h; omega

set_option maxHeartbeats 400000 in
theorem mulDiv_any (a b c : Int) (w : World) (ha : Ar.fits a = true) (hb : Ar.fits b = true) (hc : Ar.fits c = true) : Calls Try.prog 19 #[.int .i64 a, .int .i64 b, .int .i64 c] w fun e w' => e = .returned (.tuple #[.int .i64 (Ar.mdQ a b c), .int .i64 (Ar.mdR a b c), .bool (Ar.mdI a b c)]) ∧ Below w.heap.size w w' := by
  by_cases h0 : 0 < c
  · have P := Ar.prod_bd ha hb
    have R := Lib.hid (rng_prod ha hb)
    have Q := quot_rng P.1 P.2 (show 1 ≤ c by omega) hc
    have RQ := Lib.hid (rng_127 Q.1)
    have RR := Lib.hid (show -(2 ^ 135) ≤ a * b % c ∧ a * b % c < 2 ^ 135 by have := Ar.fits_t Q.2.2.2; rw [pow_top]; omega)
    have FR := Lib.hid Q.2.2.2
    have HA := Lib.hid ha
    have HB := Lib.hid hb
    have HC := Lib.hid hc
    clear ha hb hc P Q
    go_enter Try.func19, Try.ntmps19
    go_wp2_with fail
    refine (bits_any a _ HA.out).mono ?_
    rintro e w1 ⟨b1, rfl, g1, h1, B1⟩
    go_wp2_with fail
    refine (times_any _ b _ _ h1 HB.out).mono ?_
    rintro e w2 ⟨b2, rfl, g2, h2, B2⟩
    go_wp2_with fail
    refine (floor_any _ c _ _ h2 R.out.1 R.out.2 (by omega) HC.out).mono ?_
    rintro e w3 ⟨b3, b4, rfl, h3, h4, B3⟩
    have K2 := B1.trans (B2.mono B1.size)
    have K3 := K2.trans (B3.mono K2.size)
    clear B1 B2 K2 h1 h2 B3
    go_wp2_with fail
    refine (number_any _ _ _ h3 RQ.out.1 RQ.out.2).mono ?_
    rintro e w4 ⟨rfl, B4⟩
    have K4 := Lib.hid (K3.trans (B4.mono K3.size))
    have H4 := Lib.hid (h4.after B4)
    clear h3 h4 B4 K3
    cases hf : Ar.fits (a * b / c)
    · have F := Lib.hid hf
      clear hf
      go_wp2
      go_ret3
      exact ⟨ret_iib (by simp [Ar.mdQ, Ar.fitV, F.out]) (by simp [Ar.mdR, F.out]) (by simp [Ar.mdI, F.out]), K4.out⟩
    · have F := Lib.hid hf
      clear hf
      go_wp2_with fail
      refine (number_any _ _ _ H4.out RR.out.1 RR.out.2).mono ?_
      rintro e w5 ⟨rfl, B5⟩
      have K5 := Lib.hid (K4.out.trans (B5.mono K4.out.size))
      clear B5
      go_wp2
      go_ret3
      exact ⟨ret_iib (by simp [Ar.mdQ, h0]) (by simp [Ar.mdR, h0, F.out, Ar.fitV, FR.out]) (by simp [Ar.mdI, F.out, h0]), K5.out⟩
  · clear ha hb hc
    have e1 : Ar.mdQ a b c = 0 := by simp [Ar.mdQ, h0]
    have e2 : Ar.mdR a b c = 0 := by simp [Ar.mdR, h0]
    have e3 : Ar.mdI a b c = false := by simp [Ar.mdI, h0]
    rw [e1, e2, e3]
    clear e1 e2 e3
    go_enter Try.func19, Try.ntmps19
    go_wp2
    go_ret3
    exact ⟨rfl, Below.refl _ _⟩

set_option maxHeartbeats 800000 in
theorem near_any (a b c : Int) (w : World) (ha : Ar.fits a = true) (hb : Ar.fits b = true) (hc : Ar.fits c = true) : Calls Try.prog 21 #[.int .i64 a, .int .i64 b, .int .i64 c] w fun e w' => e = .returned (.tuple #[.int .i64 (Ar.neV a b c), .bool (Ar.neI a b c)]) ∧ Below w.heap.size w w' := by
  by_cases h0 : 0 < c
  · have P := Ar.prod_bd ha hb
    have R := Lib.hid (rng_prod ha hb)
    have Q := quot_rng P.1 P.2 (show 1 ≤ c by omega) hc
    have RQ := Lib.hid (rng_127 Q.1)
    have RQ1 := Lib.hid (show -(2 ^ 135) ≤ a * b / c + 1 ∧ a * b / c + 1 < 2 ^ 135 by
      have e127 : (2 : Int) ^ 127 = 170141183460469231731687303715884105728 := by decide
      have := Q.1
      rw [e127] at this
      rw [pow_top]; omega)
    have RR := Lib.hid (show -(2 ^ 135) ≤ 2 * (a * b % c) - c ∧ 2 * (a * b % c) - c < 2 ^ 135 by have := Ar.fits_t Q.2.2.2; have := Ar.fits_t hc; rw [pow_top]; omega)
    have HA := Lib.hid ha
    have HB := Lib.hid hb
    have HC := Lib.hid hc
    clear ha hb hc P Q
    go_enter Try.func21, Try.ntmps21
    go_wp2_with fail
    refine (bits_any a _ HA.out).mono ?_
    rintro e w1 ⟨b1, rfl, g1, h1, B1⟩
    go_wp2_with fail
    refine (times_any _ b _ _ h1 HB.out).mono ?_
    rintro e w2 ⟨b2, rfl, g2, h2, B2⟩
    go_wp2_with fail
    refine (floor_any _ c _ _ h2 R.out.1 R.out.2 (by omega) HC.out).mono ?_
    rintro e w3 ⟨b3, b4, rfl, h3, h4, B3⟩
    have K2 := B1.trans (B2.mono B1.size)
    have K3 := K2.trans (B3.mono K2.size)
    clear B1 B2 K2 h1 h2 B3
    go_wp2_with fail
    refine (twice_any _ _ _ h4).mono ?_
    rintro e w4 ⟨b5, rfl, g4, h5, B4⟩
    go_wp2_with fail
    refine (bits_any c _ HC.out).mono ?_
    rintro e w5 ⟨b6, rfl, g5, h6, B5⟩
    go_wp2_with fail
    refine (minus_any _ _ _ h6).mono ?_
    rintro e w6 ⟨b7, rfl, g6, h7, B6⟩
    go_wp2_with fail
    refine (plus_any _ _ _ _ _ ((h5.after B5).after B6) h7).mono ?_
    rintro e w7 ⟨b8, rfl, g7, h8, B7⟩
    have K4 := K3.trans (B4.mono K3.size)
    have K5 := K4.trans (B5.mono K4.size)
    have K6 := K5.trans (B6.mono K5.size)
    have K7 := Lib.hid (K6.trans (B7.mono K6.size))
    have H3 := Lib.hid ((((h3.after B4).after B5).after B6).after B7)
    have H8 := Lib.hid (h8.of (show 2 * (a * b % c) + -c = 2 * (a * b % c) - c by omega))
    clear B4 B5 B6 B7 h3 h4 h5 h6 h7 h8 K3 K4 K5 K6
    by_cases hs : 2 * (a * b % c) - c < 0
    · have HS := Lib.hid hs
      clear hs
      go_wp2_with fail
      refine (below_t _ _ _ H8.out RR.out.1 RR.out.2 HS.out).mono ?_
      rintro e w' ⟨rfl, rfl⟩
      go_wp2_with fail
      refine (number_any _ _ _ H3.out RQ.out.1 RQ.out.2).mono ?_
      rintro e w8 ⟨rfl, B8⟩
      have K8 := Lib.hid (K7.out.trans (B8.mono K7.out.size))
      clear B8
      go_wp2
      go_ret2
      exact ⟨ret_ib (by simp [Ar.neV, h0, Ar.near, HS.out]) (by simp [Ar.neI, h0, Ar.near, HS.out]), K8.out⟩
    · have HS := Lib.hid hs
      clear hs
      go_wp2_with fail
      refine (below_f _ _ _ H8.out RR.out.1 RR.out.2 (by have := HS.out; omega)).mono ?_
      rintro e w' ⟨rfl, rfl⟩
      go_wp2_with fail
      refine (bits_any 1 _ (by decide)).mono ?_
      rintro e w8 ⟨b9, rfl, g8, h9, B8⟩
      go_wp2_with fail
      refine (plus_any _ _ _ _ _ (H3.out.after B8) h9).mono ?_
      rintro e w9 ⟨b10, rfl, g9, h10, B9⟩
      have K8 := K7.out.trans (B8.mono K7.out.size)
      have K9 := K8.trans (B9.mono K8.size)
      clear B8 h9 B9 K8
      go_wp2_with fail
      refine (number_any _ _ _ h10 RQ1.out.1 RQ1.out.2).mono ?_
      rintro e w10 ⟨rfl, B10⟩
      have K10 := Lib.hid (K9.trans (B10.mono K9.size))
      clear B10 K9 h10
      go_wp2
      go_ret2
      have HS' : ¬ 2 * (a * b % c) - c < 0 := by have := HS.out; omega
      exact ⟨ret_ib (by unfold Ar.neV Ar.near; rw [if_pos h0, if_neg HS']) (by unfold Ar.neI Ar.near; rw [if_neg HS']; simp [h0]), K10.out⟩
  · clear ha hb hc
    have e1 : Ar.neV a b c = 0 := by simp [Ar.neV, h0]
    have e3 : Ar.neI a b c = false := by simp [Ar.neI, h0]
    rw [e1, e3]
    clear e1 e3
    go_enter Try.func21, Try.ntmps21
    go_wp2
    go_ret2
    exact ⟨rfl, Below.refl _ _⟩
end Go.Proofs.Ytneomiaghenpgaa.ref07
