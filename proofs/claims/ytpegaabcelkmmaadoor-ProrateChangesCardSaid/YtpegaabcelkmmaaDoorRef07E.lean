/- What MulDiv, Near and Sum of package quittanceref07 answer (walks). No conditions but that numbers are of 64 bits; of sums: at most 4096 numbers. -/
import Derived.Test.YtpegaabcelkmmaaDoorRef07D
namespace Go.Proofs.YtpegaabcelkmmaaDoor.ref07
open Go.RowKit Go.Proofs.YtpegaabcelkmmaaDoor.base

theorem rng_127 {x : Int} (h : -(2 ^ 127) ≤ x ∧ x ≤ 2 ^ 127) : -(2 ^ 135) ≤ x ∧ x < 2 ^ 135 := by
  have e127 : (2 : Int) ^ 127 = 170141183460469231731687303715884105728 := by decide
  rw [pow_top]; rw [e127] at h; omega

set_option maxHeartbeats 400000 in
theorem mulDiv_any (a b c : Int) (w : World) (ha : Ar.fits a = true) (hb : Ar.fits b = true) (hc : Ar.fits c = true) : Calls Tryd.prog 19 #[.int .i64 a, .int .i64 b, .int .i64 c] w fun e w' => e = .returned (.tuple #[.int .i64 (Ar.mdQ a b c), .int .i64 (Ar.mdR a b c), .bool (Ar.mdI a b c)]) ∧ Below w.heap.size w w' := by
  by_cases h0 : 0 < c
  · have P := Ar.prod_bd ha hb
    have R := Lib.hid (rng_prod ha hb)
    have Q := quot_rng P.1 P.2 (show 1 ≤ c by omega) hc
    have RQ := Lib.hid (rng_127 Q.1)
    have RR := Lib.hid (show -(2 ^ 135) ≤ a * b % c ∧ a * b % c < 2 ^ 135 by have := Ar.fits_t Q.2.2.2; rw [pow_top]; omega)
    have FR := Lib.hid Q.2.2.2
    have HA := Lib.hid ha
    have HB := Lib.hid hb
    have HC := Lib.hid hc
    clear ha hb hc P Q
    go_enter Tryd.func19, Tryd.ntmps19
    go_wp2_with fail
    refine (bits_any a _ HA.out).mono ?_
    rintro e w1 ⟨b1, rfl, g1, h1, B1⟩
    go_wp2_with fail
    refine (times_any _ b _ _ h1 HB.out).mono ?_
    rintro e w2 ⟨b2, rfl, g2, h2, B2⟩
    go_wp2_with fail
    refine (floor_any _ c _ _ h2 R.out.1 R.out.2 (by omega) HC.out).mono ?_
    rintro e w3 ⟨b3, b4, rfl, h3, h4, B3⟩
    have K2 := B1.trans (B2.mono B1.size)
    have K3 := K2.trans (B3.mono K2.size)
    clear B1 B2 K2 h1 h2 B3
    go_wp2_with fail
    refine (number_any _ _ _ h3 RQ.out.1 RQ.out.2).mono ?_
    rintro e w4 ⟨rfl, B4⟩
    have K4 := Lib.hid (K3.trans (B4.mono K3.size))
    have H4 := Lib.hid (h4.after B4)
    clear h3 h4 B4 K3
    cases hf : Ar.fits (a * b / c)
    · have F := Lib.hid hf
      clear hf
      go_wp2
      go_ret3
      exact ⟨ret_iib (by simp [Ar.mdQ, Ar.fitV, F.out]) (by simp [Ar.mdR, F.out]) (by simp [Ar.mdI, F.out]), K4.out⟩
    · have F := Lib.hid hf
      clear hf
      go_wp2_with fail
      refine (number_any _ _ _ H4.out RR.out.1 RR.out.2).mono ?_
      rintro e w5 ⟨rfl, B5⟩
      have K5 := Lib.hid (K4.out.trans (B5.mono K4.out.size))
      clear B5
      go_wp2
      go_ret3
      exact ⟨ret_iib (by simp [Ar.mdQ, h0]) (by simp [Ar.mdR, h0, F.out, Ar.fitV, FR.out]) (by simp [Ar.mdI, F.out, h0]), K5.out⟩
  · clear ha hb hc
    have e1 : Ar.mdQ a b c = 0 := by simp [Ar.mdQ, h0]
    have e2 : Ar.mdR a b c = 0 := by simp [Ar.mdR, h0]
    have e3 : Ar.mdI a b c = false := by simp [Ar.mdI, h0]
    rw [e1, e2, e3]
    clear e1 e2 e3
    go_enter Tryd.func19, Tryd.ntmps19
    go_wp2
    go_ret3
    exact ⟨rfl, Below.refl _ _⟩

end Go.Proofs.YtpegaabcelkmmaaDoor.ref07
