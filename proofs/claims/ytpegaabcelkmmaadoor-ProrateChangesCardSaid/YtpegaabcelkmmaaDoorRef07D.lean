/- What the functions of package quittanceref07 answer (walks, fourth part): sums, differences, products, quotients. No conditions but that numbers are of 64 bits. -/
import Derived.Test.YtpegaabcelkmmaaDoorRef07C
namespace Go.Proofs.YtpegaabcelkmmaaDoor.ref07
open Go.RowKit Go.Proofs.YtpegaabcelkmmaaDoor.base

theorem pow_126 : (2 : Int) ^ 126 = 85070591730234615865843651857942052864 := by decide

set_option maxHeartbeats 400000 in
theorem floor_any (x c : Int) (p : Nat) (w : World) (hx : IsB w p x) (x1 : -(2 ^ 135) < x) (x2 : x < 2 ^ 135) (c1 : 1 ≤ c) (hc : Ar.fits c = true) : Calls Tryd.prog 30 #[.slice (some ⟨p, 0, none⟩) 136 136, .int .i64 c] w fun e w' => Pair w w' e (x / c) (x % c) := by
  have HX := Lib.hid hx
  have X12 := Lib.hid (And.intro x1 x2)
  have HC := Lib.hid hc
  clear hx x1 x2 hc
  by_cases hs : x < 0
  · have HS := Lib.hid hs
    clear hs
    have D := Lib.hid (Ar.neg_div (x := x) (c := c) (by omega))
    have Y1 := Lib.hid (show 0 ≤ -x ∧ -x < 2 ^ 135 by have := X12.out; have := HS.out; omega)
    have r0 := Int.emod_nonneg (-x) (show c ≠ 0 by omega)
    have r1 := Int.emod_lt_of_pos (-x) (show 0 < c by omega)
    have cb := Ar.fits_t HC.out
    have RB := Lib.hid (show 0 ≤ (-x) % c ∧ (-x) % c < 2 ^ 135 by rw [pow_top]; omega)
    clear r0 r1 cb
    go_enter Tryd.func30, Tryd.ntmps30
    go_wp2_with fail
    refine (below_t _ _ _ HX.out (Int.le_of_lt X12.out.1) X12.out.2 HS.out).mono ?_
    rintro e w' ⟨rfl, rfl⟩
    go_wp2_with fail
    refine (minus_any _ _ _ HX.out).mono ?_
    rintro e w1 ⟨b1, rfl, g1, h1, B1⟩
    go_wp2_with fail
    refine (upon_any _ _ _ _ h1 Y1.out.1 Y1.out.2 c1 HC.out).mono ?_
    rintro e w2 ⟨b2, b3, rfl, h2, h3, B2⟩
    have HB2 := B1.trans (B2.mono B1.size)
    clear h1 B1 B2
    go_wp2_with fail
    refine (bits_any 0 _ (by decide)).mono ?_
    rintro e w3 ⟨b4, rfl, g4, h4, B3⟩
    go_wp2_with fail
    refine (same_zero _ _ _ _ (h3.after B3) h4 RB.out.1 RB.out.2).mono ?_
    rintro e w4 ⟨rfl, B4⟩
    have HB3 := HB2.trans (B3.mono HB2.size)
    have HB4 := HB3.trans (B4.mono HB3.size)
    have k2 := Lib.hid ((h2.after B3).after B4)
    have k3 := Lib.hid ((h3.after B3).after B4)
    have K4 := Lib.hid HB4
    clear HB2 HB3 HB4 B3 B4 h2 h3 h4
    by_cases hz : (-x) % c = 0
    · have E := Lib.hid (D.out.1 hz)
      clear D
      go_wp2_with fail
      refine (minus_any _ _ _ k2.out).mono ?_
      rintro e w5 ⟨b5, rfl, g5, h5, B5⟩
      go_wp2
      go_ret2
      exact ⟨_, _, rfl, h5.of E.out.1.symm, (k3.out.after B5).of E.out.2.symm, K4.out.trans (B5.mono K4.out.size)⟩
    · have E := Lib.hid (D.out.2 hz)
      clear D
      go_wp2_with fail
      refine (bits_any 1 _ (by decide)).mono ?_
      rintro e w5 ⟨b5, rfl, g5, h5, B5⟩
      go_wp2_with fail
      refine (plus_any _ _ _ _ _ (k2.out.after B5) h5).mono ?_
      rintro e w6 ⟨b6, rfl, g6, h6, B6⟩
      go_wp2_with fail
      refine (minus_any _ _ _ h6).mono ?_
      rintro e w7 ⟨b7, rfl, g7, h7, B7⟩
      go_wp2_with fail
      refine (bits_any c _ HC.out).mono ?_
      rintro e w8 ⟨b8, rfl, g8, h8, B8⟩
      go_wp2_with fail
      refine (minus_any _ _ _ ((((k3.out.after B5).after B6).after B7).after B8)).mono ?_
      rintro e w9 ⟨b9, rfl, g9, h9, B9⟩
      go_wp2_with fail
      refine (plus_any _ _ _ _ _ (h8.after B9) h9).mono ?_
      rintro e w10 ⟨b10, rfl, g10, h10, B10⟩
      go_wp2
      go_ret2
      have K5 := K4.out.trans (B5.mono K4.out.size)
      have K6 := K5.trans (B6.mono K5.size)
      have K7 := K6.trans (B7.mono K6.size)
      have K8 := K7.trans (B8.mono K7.size)
      have K9 := K8.trans (B9.mono K8.size)
      exact ⟨_, _, rfl, (((h7.after B8).after B9).after B10).of E.out.1.symm, h10.of E.out.2.symm, K9.trans (B10.mono K9.size)⟩
  · have HS := Lib.hid hs
    clear hs
    go_enter Tryd.func30, Tryd.ntmps30
    go_wp2_with fail
    refine (below_f _ _ _ HX.out (Int.le_of_lt X12.out.1) X12.out.2 (by have := HS.out; omega)).mono ?_
    rintro e w' ⟨rfl, rfl⟩
    go_wp2_with fail
    refine (upon_any _ _ _ _ HX.out (by have := HS.out; omega) X12.out.2 c1 HC.out).mono ?_
    rintro e w2 ⟨b2, b3, rfl, h2, h3, B2⟩
    go_wp2
    go_ret2
    exact ⟨_, _, rfl, h2, h3, B2⟩

theorem rng_sum {a b : Int} (ha : Ar.fits a = true) (hb : Ar.fits b = true) : -(2 ^ 135) ≤ a + b ∧ a + b < 2 ^ 135 := by
  have := Ar.fits_t ha; have := Ar.fits_t hb; rw [pow_top]; omega
theorem rng_prod {a b : Int} (ha : Ar.fits a = true) (hb : Ar.fits b = true) : -(2 ^ 135) < a * b ∧ a * b < 2 ^ 135 := by
  have := Ar.prod_bd ha hb; rw [pow_top]; rw [pow_126] at this; omega
/-- The quotient's and the rest's sizes. -/
theorem quot_rng {x c : Int} (x1 : -(2 ^ 126) ≤ x) (x2 : x ≤ 2 ^ 126) (c1 : 1 ≤ c) (hc : Ar.fits c = true) :
    (-(2 ^ 127) ≤ x / c ∧ x / c ≤ 2 ^ 127) ∧ 0 ≤ x % c ∧ x % c < c ∧ Ar.fits (x % c) = true := by
  have e := Int.mul_ediv_add_emod x c
  have r0 := Int.emod_nonneg x (show c ≠ 0 by omega)
  have r1 := Int.emod_lt_of_pos x (show 0 < c by omega)
  have cb := Ar.fits_t hc
  have e127 : (2 : Int) ^ 127 = 170141183460469231731687303715884105728 := by decide
  rw [pow_126] at x1 x2
  rw [e127]
  have q1 : x / c ≤ x.natAbs := by
    by_cases h : 0 ≤ x
    · have := Int.ediv_le_self c h; omega
    · have : x / c < 0 := Int.ediv_neg_of_neg_of_pos (by omega) (by omega); omega
  have q2 : -(x.natAbs : Int) ≤ x / c := by
    by_cases h : 0 ≤ x
    · have := Int.ediv_nonneg h (show 0 ≤ c by omega); omega
    · have : x ≤ x / c := by
        have h1 : c * (x / c) ≤ 1 * (x / c) := Int.mul_le_mul_of_nonpos_right (by omega) (Int.le_of_lt (Int.ediv_neg_of_neg_of_pos (by omega) (by omega)))
        have := Int.ediv_neg_of_neg_of_pos (show x < 0 by omega) (show 0 < c by omega)
        have h3 : x / c * c + x % c = x := by rw [Int.mul_comm]; exact e
        have h4 : x ≤ x / c ∨ x / c < x := by omega
        rcases h4 with h4 | h4
        · exact h4
        · exfalso
          have h5 := Int.mul_ediv_self_le (x := x) (k := c) (by omega)
          have h6 : c * (x / c) ≤ c * (x - 1) := Int.mul_le_mul_of_nonneg_left (by omega) (by omega)
          have h7 : c * (x - 1) = c * x - c := by rw [Int.mul_sub, Int.mul_one]
          have h8 : c * x ≤ 1 * x := Int.mul_le_mul_of_nonpos_right (by omega) (by omega)
          omega
      omega
  exact ⟨⟨by omega, by omega⟩, r0, r1, Ar.fits_mk (by omega) (by omega)⟩
end Go.Proofs.YtpegaabcelkmmaaDoor.ref07
