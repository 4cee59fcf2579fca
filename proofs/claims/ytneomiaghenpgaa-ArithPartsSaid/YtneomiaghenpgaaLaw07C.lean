/- The statement ArithParts of chapter 07 (arith), walked: it answers true. No conditions but that numbers are of 64 bits. -/
import Derived.Test.YtneomiaghenpgaaLaw07B
namespace Go.Proofs.Ytneomiaghenpgaa.law07
open Go.RowKit Go.Proofs.Ytneomiaghenpgaa.base

def mx (a b : Int) : Int := if a < b then b else a
def mn (a b : Int) : Int := if b < a then b else a
theorem mx_fits {a b : Int} (ha : Ar.fits a = true) (hb : Ar.fits b = true) : Ar.fits (mx a b) = true := by unfold mx; split <;> assumption
theorem mn_fits {a b : Int} (ha : Ar.fits a = true) (hb : Ar.fits b = true) : Ar.fits (mn a b) = true := by unfold mn; split <;> assumption
theorem mdQ_fits (a b c : Int) : Ar.fits (Ar.mdQ a b c) = true := by
  unfold Ar.mdQ; split
  · exact fitV_fits _
  · decide
theorem md_self {a c : Int} (hc : 0 < c) (ha : Ar.fits a = true) : Ar.mdQ a c c = a ∧ Ar.mdR a c c = 0 ∧ Ar.mdI a c c = true := by
  have h : a * c / c = a := Int.mul_ediv_cancel _ (by omega)
  refine ⟨?_, ?_, ?_⟩
  · simp [Ar.mdQ, hc, h, Ar.fitV, ha]
  · simp [Ar.mdR, Int.mul_emod_left]
  · simp [Ar.mdI, hc, h, ha]
theorem md_no {a b c : Int} (hc : c ≤ 0) : Ar.mdI a b c = false := by
  unfold Ar.mdI; simp; omega
theorem md_yes {a b c : Int} (hc : 0 < c) (h : Ar.mdI a b c = true) : Ar.mdQ a b c = a * b / c := by
  unfold Ar.mdI at h; simp at h
  simp [Ar.mdQ, hc, Ar.fitV, h.2]
/-- Quotients of parts, and of the whole. -/
theorem parts {a b n c : Int} (hc : 0 < c) (hn : 0 ≤ n) : mn a b * n / c ≤ mx a b * n / c ∧ (mn a b * n / c + mx a b * n / c = (a + b) * n / c ∨ mn a b * n / c + mx a b * n / c = (a + b) * n / c - 1) := by
  have e : mn a b * n + mx a b * n = (a + b) * n := by
    rw [← Int.add_mul]; congr 1; unfold mn mx; split <;> split <;> omega
  have l : mn a b * n ≤ mx a b * n := Int.mul_le_mul_of_nonneg_right (by unfold mn mx; split <;> split <;> omega) hn
  refine ⟨Int.ediv_le_ediv hc l, ?_⟩
  rw [← e]
  generalize mn a b * n = u
  generalize mx a b * n = v
  have h1 := Int.mul_ediv_add_emod u c
  have h2 := Int.mul_ediv_add_emod v c
  have r1 := Int.emod_nonneg u (show c ≠ 0 by omega)
  have r2 := Int.emod_nonneg v (show c ≠ 0 by omega)
  have s1 := Int.emod_lt_of_pos u hc
  have s2 := Int.emod_lt_of_pos v hc
  by_cases g : u % c + v % c < c
  · left
    have := (Int.ediv_emod_unique (a := u + v) (b := c) (r := u % c + v % c) (q := u / c + v / c) hc).2 ⟨by rw [Int.mul_add]; omega, by omega, g⟩
    exact this.1.symm
  · right
    have := (Int.ediv_emod_unique (a := u + v) (b := c) (r := u % c + v % c - c) (q := u / c + v / c + 1) hc).2 ⟨by rw [Int.mul_add, Int.mul_add]; omega, by omega, by omega⟩
    omega

set_option maxRecDepth 100000 in
set_option maxHeartbeats 4000000 in
theorem parts_no (a b n c : Int) (w : World) (FA : Ar.fits a = true) (FN : Ar.fits n = true) (FC : Ar.fits c = true) (hc : c ≤ 0) :
    Calls Try.prog 7 #[.agg #[.int .i64 a, .int .i64 b, .int .i64 n, .int .i64 c]] w fun e w' => e = .returned (.bool true) ∧ Below w.heap.size w w' := by
  obtain ⟨v, r, M⟩ : ∃ v r, (∀ w, Calls Try.prog 18 #[.int .i64 a, .int .i64 n, .int .i64 c] w fun E w' => E = .returned (.tuple #[.int .i64 v, .int .i64 r, .bool false]) ∧ Below w.heap.size w w') :=
    ⟨_, _, fun w => (arith.mulDiv_any a n c w FA FN FC).mono fun _ _ ⟨p, q⟩ => ⟨p.trans (ret_iib rfl rfl (md_no hc)), q⟩⟩
  have HM := Lib.hid M
  clear M FA FN FC
  go_enter Try.func7, Try.ntmps7
  go_wp2
  go_quiet (fail)
  go_wp2_with fail
  refine (HM.out _).mono ?_
  rintro e w1 ⟨rfl, B1⟩
  have K1 := Lib.hid ((below_drewN ((Below.refl _ _).alloc (Nat.le_refl _) _) nq).trans (B1.mono (by simp)))
  clear B1
  go_wp2_with fail
  refine (head_any _).mono ?_
  rintro e w2 ⟨rfl, B2⟩
  have K2 := Lib.hid (K1.out.trans (B2.mono K1.out.size))
  clear B2
  go_wp2
  go_ret
  exact ⟨rfl, K2.out⟩

set_option maxRecDepth 100000 in
set_option maxHeartbeats 4000000 in
theorem parts_yes (a b n c : Int) (w : World) (FA : Ar.fits a = true) (FB : Ar.fits b = true) (FN : Ar.fits n = true) (FC : Ar.fits c = true) (hc : 0 < c) :
    Calls Try.prog 7 #[.agg #[.int .i64 a, .int .i64 b, .int .i64 n, .int .i64 c]] w fun e w' => e = .returned (.bool true) ∧ Below w.heap.size w w' := by
  have hmx : max n 0 = mx n 0 := by unfold mx; split <;> omega
  have hmn : min a b = mn a b := by unfold mn; split <;> omega
  have hmx2 : max a b = mx a b := by unfold mx; split <;> omega
  have N0 : 0 ≤ mx n 0 := by unfold mx; split <;> omega
  have FM : Ar.fits (mx n 0) = true := mx_fits FN (by decide)
  have q := parts (a := a) (b := b) (n := mx n 0) hc N0
  obtain ⟨q1, q2, q3⟩ := md_self (c := c) hc FA
  have M0 : (∀ w, Calls Try.prog 18 #[.int .i64 a, .int .i64 c, .int .i64 c] w fun E w' => E = .returned (.tuple #[.int .i64 a, .int .i64 0, .bool true]) ∧ Below w.heap.size w w') := fun w => (arith.mulDiv_any a c c w FA FC FC).mono fun _ _ ⟨p, q⟩ => ⟨p.trans (ret_iib q1 q2 q3), q⟩
  obtain ⟨x, rx, e, hx, he, X⟩ : ∃ x r e, x = Ar.mdQ (mn a b) (mx n 0) c ∧ e = Ar.mdI (mn a b) (mx n 0) c ∧ (∀ w, Calls Try.prog 18 #[.int .i64 (mn a b), .int .i64 (mx n 0), .int .i64 c] w fun E w' => E = .returned (.tuple #[.int .i64 x, .int .i64 r, .bool e]) ∧ Below w.heap.size w w') := ⟨_, _, _, rfl, rfl, fun w => arith.mulDiv_any _ _ _ w (mn_fits FA FB) FM FC⟩
  obtain ⟨y, ry, f, hy, hf, Y⟩ : ∃ x r e, x = Ar.mdQ (mx a b) (mx n 0) c ∧ e = Ar.mdI (mx a b) (mx n 0) c ∧ (∀ w, Calls Try.prog 18 #[.int .i64 (mx a b), .int .i64 (mx n 0), .int .i64 c] w fun E w' => E = .returned (.tuple #[.int .i64 x, .int .i64 r, .bool e]) ∧ Below w.heap.size w w') := ⟨_, _, _, rfl, rfl, fun w => arith.mulDiv_any _ _ _ w (mx_fits FA FB) FM FC⟩
  obtain ⟨s, g, hs, hg, S⟩ : ∃ x e, x = Ar.fitV (a + b) ∧ e = Ar.fits (a + b) ∧ (∀ w, Calls Try.prog 8 #[.int .i64 a, .int .i64 b] w fun E w' => E = .returned (.tuple #[.int .i64 x, .bool e]) ∧ Below w.heap.size w w') := ⟨_, _, rfl, rfl, fun w => arith.add_any _ _ w FA FB⟩
  have FS : Ar.fits s = true := by rw [hs]; exact fitV_fits _
  obtain ⟨z, rz, h, hz, hh, Z⟩ : ∃ x r e, x = Ar.mdQ s (mx n 0) c ∧ e = Ar.mdI s (mx n 0) c ∧ (∀ w, Calls Try.prog 18 #[.int .i64 s, .int .i64 (mx n 0), .int .i64 c] w fun E w' => E = .returned (.tuple #[.int .i64 x, .int .i64 r, .bool e]) ∧ Below w.heap.size w w') := ⟨_, _, _, rfl, rfl, fun w => arith.mulDiv_any _ _ _ w FS FM FC⟩
  obtain ⟨t, i, ht, hi, T⟩ : ∃ t e, t = Ar.fitV (x + y) ∧ e = Ar.fits (x + y) ∧ (∀ w, Calls Try.prog 8 #[.int .i64 x, .int .i64 y] w fun E w' => E = .returned (.tuple #[.int .i64 t, .bool e]) ∧ Below w.heap.size w w') := ⟨_, _, rfl, rfl, fun w => arith.add_any _ _ w (by rw [hx]; exact mdQ_fits _ _ _) (by rw [hy]; exact mdQ_fits _ _ _)⟩
  have EXY : e = true → f = true → ¬ y < x := fun h1 h2 => by
    rw [h1] at he; rw [h2] at hf
    rw [hx, hy, md_yes hc he.symm, md_yes hc hf.symm]; omega
  have EZ : e = true → f = true → g = true → h = true → i = true → t = z ∨ t = z - 1 := fun h1 h2 h3 h4 h5 => by
    rw [h1] at he; rw [h2] at hf; rw [h3] at hg; rw [h4] at hh; rw [h5] at hi
    rw [ht, fitV_of hi.symm, hz, md_yes hc hh.symm, hs, fitV_of hg.symm, hx, hy, md_yes hc he.symm, md_yes hc hf.symm]; exact q.2
  have ZB : h = true → -9223372036854775808 ≤ z ∧ z ≤ 9223372036854775807 := fun _ => by rw [hz]; exact Ar.fits_t (mdQ_fits _ _ _)
  have TB : -9223372036854775808 ≤ t ∧ t ≤ 9223372036854775807 := by rw [ht]; exact Ar.fits_t (fitV_fits _)
  generalize mx n 0 = N at *
  generalize mn a b = A1 at *
  generalize mx a b = A2 at *
  have HM := Lib.hid M0
  have HX := Lib.hid X
  have HY := Lib.hid Y
  have HS := Lib.hid S
  have HZ := Lib.hid Z
  have HT := Lib.hid T
  clear M0 X Y S Z T q q1 q2 q3 hx he hy hf hs hg hz hh ht hi FA FB FN FC FM FS N0
  cases e
  · clear EXY EZ
    go_enter Try.func7, Try.ntmps7
    go_wp2
    go_quiet (fail)
    go_wp2_with fail
    refine (HM.out _).mono ?_
    rintro e w1 ⟨rfl, B1⟩
    have K1 := Lib.hid ((below_drewN ((Below.refl _ _).alloc (Nat.le_refl _) _) nq).trans (B1.mono (by simp)))
    clear B1
    go_wp2_with fail
    with_reducible refine (HX.out _).mono ?_
    rintro e w2 ⟨rfl, B2⟩
    have K2 := Lib.hid (K1.out.trans (B2.mono K1.out.size))
    clear B2
    go_wp2_with fail
    with_reducible refine (HY.out _).mono ?_
    rintro e w3 ⟨rfl, B3⟩
    have K3 := Lib.hid (K2.out.trans (B3.mono K2.out.size))
    clear B3
    go_wp2_with fail
    with_reducible refine (HS.out _).mono ?_
    rintro e w4 ⟨rfl, B4⟩
    have K4 := Lib.hid (K3.out.trans (B4.mono K3.out.size))
    clear B4
    go_wp2_with fail
    with_reducible refine (HZ.out _).mono ?_
    rintro e w5 ⟨rfl, B5⟩
    have K5 := Lib.hid (K4.out.trans (B5.mono K4.out.size))
    clear B5
    go_wp2_with fail
    with_reducible refine (HT.out _).mono ?_
    rintro e w6 ⟨rfl, B6⟩
    have K6 := Lib.hid (K5.out.trans (B6.mono K5.out.size))
    clear B6
    go_wp2_with fail
    with_reducible refine (head_any _).mono ?_
    rintro e w7 ⟨rfl, B7⟩
    have K7 := Lib.hid (K6.out.trans (B7.mono K6.out.size))
    clear B7
    go_wp2
    go_ret
    exact ⟨rfl, K7.out⟩
  · cases f
    · clear EXY EZ
      go_enter Try.func7, Try.ntmps7
      go_wp2
      go_quiet (fail)
      go_wp2_with fail
      refine (HM.out _).mono ?_
      rintro e w1 ⟨rfl, B1⟩
      have K1 := Lib.hid ((below_drewN ((Below.refl _ _).alloc (Nat.le_refl _) _) nq).trans (B1.mono (by simp)))
      clear B1
      go_wp2_with fail
      with_reducible refine (HX.out _).mono ?_
      rintro e w2 ⟨rfl, B2⟩
      have K2 := Lib.hid (K1.out.trans (B2.mono K1.out.size))
      clear B2
      go_wp2_with fail
      with_reducible refine (HY.out _).mono ?_
      rintro e w3 ⟨rfl, B3⟩
      have K3 := Lib.hid (K2.out.trans (B3.mono K2.out.size))
      clear B3
      go_wp2_with fail
      with_reducible refine (HS.out _).mono ?_
      rintro e w4 ⟨rfl, B4⟩
      have K4 := Lib.hid (K3.out.trans (B4.mono K3.out.size))
      clear B4
      go_wp2_with fail
      with_reducible refine (HZ.out _).mono ?_
      rintro e w5 ⟨rfl, B5⟩
      have K5 := Lib.hid (K4.out.trans (B5.mono K4.out.size))
      clear B5
      go_wp2_with fail
      with_reducible refine (HT.out _).mono ?_
      rintro e w6 ⟨rfl, B6⟩
      have K6 := Lib.hid (K5.out.trans (B6.mono K5.out.size))
      clear B6
      go_wp2_with fail
      with_reducible refine (head_any _).mono ?_
      rintro e w7 ⟨rfl, B7⟩
      have K7 := Lib.hid (K6.out.trans (B7.mono K6.out.size))
      clear B7
      go_wp2
      go_ret
      exact ⟨rfl, K7.out⟩
    · have k1 := EXY rfl rfl
      clear EXY
      cases g
      · clear EZ
        go_enter Try.func7, Try.ntmps7
        go_wp2
        go_quiet (fail)
        go_wp2_with fail
        refine (HM.out _).mono ?_
        rintro e w1 ⟨rfl, B1⟩
        have K1 := Lib.hid ((below_drewN ((Below.refl _ _).alloc (Nat.le_refl _) _) nq).trans (B1.mono (by simp)))
        clear B1
        go_wp2_with fail
        with_reducible refine (HX.out _).mono ?_
        rintro e w2 ⟨rfl, B2⟩
        have K2 := Lib.hid (K1.out.trans (B2.mono K1.out.size))
        clear B2
        go_wp2_with fail
        with_reducible refine (HY.out _).mono ?_
        rintro e w3 ⟨rfl, B3⟩
        have K3 := Lib.hid (K2.out.trans (B3.mono K2.out.size))
        clear B3
        go_wp2_with fail
        with_reducible refine (HS.out _).mono ?_
        rintro e w4 ⟨rfl, B4⟩
        have K4 := Lib.hid (K3.out.trans (B4.mono K3.out.size))
        clear B4
        go_wp2_with fail
        with_reducible refine (HZ.out _).mono ?_
        rintro e w5 ⟨rfl, B5⟩
        have K5 := Lib.hid (K4.out.trans (B5.mono K4.out.size))
        clear B5
        go_wp2_with fail
        with_reducible refine (HT.out _).mono ?_
        rintro e w6 ⟨rfl, B6⟩
        have K6 := Lib.hid (K5.out.trans (B6.mono K5.out.size))
        clear B6
        go_wp2_with fail
        with_reducible refine (head_any _).mono ?_
        rintro e w7 ⟨rfl, B7⟩
        have K7 := Lib.hid (K6.out.trans (B7.mono K6.out.size))
        clear B7
        go_wp2
        go_ret
        exact ⟨rfl, K7.out⟩
      · cases h
        · clear EZ
          go_enter Try.func7, Try.ntmps7
          go_wp2
          go_quiet (fail)
          go_wp2_with fail
          refine (HM.out _).mono ?_
          rintro e w1 ⟨rfl, B1⟩
          have K1 := Lib.hid ((below_drewN ((Below.refl _ _).alloc (Nat.le_refl _) _) nq).trans (B1.mono (by simp)))
          clear B1
          go_wp2_with fail
          with_reducible refine (HX.out _).mono ?_
          rintro e w2 ⟨rfl, B2⟩
          have K2 := Lib.hid (K1.out.trans (B2.mono K1.out.size))
          clear B2
          go_wp2_with fail
          with_reducible refine (HY.out _).mono ?_
          rintro e w3 ⟨rfl, B3⟩
          have K3 := Lib.hid (K2.out.trans (B3.mono K2.out.size))
          clear B3
          go_wp2_with fail
          with_reducible refine (HS.out _).mono ?_
          rintro e w4 ⟨rfl, B4⟩
          have K4 := Lib.hid (K3.out.trans (B4.mono K3.out.size))
          clear B4
          go_wp2_with fail
          with_reducible refine (HZ.out _).mono ?_
          rintro e w5 ⟨rfl, B5⟩
          have K5 := Lib.hid (K4.out.trans (B5.mono K4.out.size))
          clear B5
          go_wp2_with fail
          with_reducible refine (HT.out _).mono ?_
          rintro e w6 ⟨rfl, B6⟩
          have K6 := Lib.hid (K5.out.trans (B6.mono K5.out.size))
          clear B6
          go_wp2_with fail
          with_reducible refine (head_any _).mono ?_
          rintro e w7 ⟨rfl, B7⟩
          have K7 := Lib.hid (K6.out.trans (B7.mono K6.out.size))
          clear B7
          go_wp2
          go_ret
          exact ⟨rfl, K7.out⟩
        · obtain ⟨z1, z2⟩ := ZB rfl
          cases i
          · clear EZ ZB
            go_enter Try.func7, Try.ntmps7
            go_wp2
            go_quiet (fail)
            go_wp2_with fail
            refine (HM.out _).mono ?_
            rintro e w1 ⟨rfl, B1⟩
            have K1 := Lib.hid ((below_drewN ((Below.refl _ _).alloc (Nat.le_refl _) _) nq).trans (B1.mono (by simp)))
            clear B1
            go_wp2_with fail
            with_reducible refine (HX.out _).mono ?_
            rintro e w2 ⟨rfl, B2⟩
            have K2 := Lib.hid (K1.out.trans (B2.mono K1.out.size))
            clear B2
            go_wp2_with fail
            with_reducible refine (HY.out _).mono ?_
            rintro e w3 ⟨rfl, B3⟩
            have K3 := Lib.hid (K2.out.trans (B3.mono K2.out.size))
            clear B3
            go_wp2_with fail
            with_reducible refine (HS.out _).mono ?_
            rintro e w4 ⟨rfl, B4⟩
            have K4 := Lib.hid (K3.out.trans (B4.mono K3.out.size))
            clear B4
            go_wp2_with fail
            with_reducible refine (HZ.out _).mono ?_
            rintro e w5 ⟨rfl, B5⟩
            have K5 := Lib.hid (K4.out.trans (B5.mono K4.out.size))
            clear B5
            go_wp2_with fail
            with_reducible refine (HT.out _).mono ?_
            rintro e w6 ⟨rfl, B6⟩
            have K6 := Lib.hid (K5.out.trans (B6.mono K5.out.size))
            clear B6
            go_wp2_with fail
            with_reducible refine (head_any _).mono ?_
            rintro e w7 ⟨rfl, B7⟩
            have K7 := Lib.hid (K6.out.trans (B7.mono K6.out.size))
            clear B7
            go_wp2
            go_ret
            exact ⟨rfl, K7.out⟩
          · rcases EZ rfl rfl rfl rfl rfl with k2 | k2
            · have k3 : (t == z) = true := by simpa using k2
              clear EZ ZB k2
              go_enter Try.func7, Try.ntmps7
              go_wp2
              go_quiet (fail)
              go_wp2_with fail
              refine (HM.out _).mono ?_
              rintro e w1 ⟨rfl, B1⟩
              have K1 := Lib.hid ((below_drewN ((Below.refl _ _).alloc (Nat.le_refl _) _) nq).trans (B1.mono (by simp)))
              clear B1
              go_wp2_with fail
              with_reducible refine (HX.out _).mono ?_
              rintro e w2 ⟨rfl, B2⟩
              have K2 := Lib.hid (K1.out.trans (B2.mono K1.out.size))
              clear B2
              go_wp2_with fail
              with_reducible refine (HY.out _).mono ?_
              rintro e w3 ⟨rfl, B3⟩
              have K3 := Lib.hid (K2.out.trans (B3.mono K2.out.size))
              clear B3
              go_wp2_with fail
              with_reducible refine (HS.out _).mono ?_
              rintro e w4 ⟨rfl, B4⟩
              have K4 := Lib.hid (K3.out.trans (B4.mono K3.out.size))
              clear B4
              go_wp2_with fail
              with_reducible refine (HZ.out _).mono ?_
              rintro e w5 ⟨rfl, B5⟩
              have K5 := Lib.hid (K4.out.trans (B5.mono K4.out.size))
              clear B5
              go_wp2_with fail
              with_reducible refine (HT.out _).mono ?_
              rintro e w6 ⟨rfl, B6⟩
              have K6 := Lib.hid (K5.out.trans (B6.mono K5.out.size))
              clear B6
              go_wp2_with fail
              with_reducible refine (head_any _).mono ?_
              rintro e w7 ⟨rfl, B7⟩
              have K7 := Lib.hid (K6.out.trans (B7.mono K6.out.size))
              clear B7
              go_wp2
              go_ret
              exact ⟨rfl, K7.out⟩
            · have k3 : (t == z) = false := by simp; omega
              have k4 : (t == z - 1) = true := by simpa using k2
              have k5 : -9223372036854775808 ≤ z - 1 := by omega
              clear EZ ZB k2
              go_enter Try.func7, Try.ntmps7
              go_wp2
              go_quiet (fail)
              go_wp2_with fail
              refine (HM.out _).mono ?_
              rintro e w1 ⟨rfl, B1⟩
              have K1 := Lib.hid ((below_drewN ((Below.refl _ _).alloc (Nat.le_refl _) _) nq).trans (B1.mono (by simp)))
              clear B1
              go_wp2_with fail
              with_reducible refine (HX.out _).mono ?_
              rintro e w2 ⟨rfl, B2⟩
              have K2 := Lib.hid (K1.out.trans (B2.mono K1.out.size))
              clear B2
              go_wp2_with fail
              with_reducible refine (HY.out _).mono ?_
              rintro e w3 ⟨rfl, B3⟩
              have K3 := Lib.hid (K2.out.trans (B3.mono K2.out.size))
              clear B3
              go_wp2_with fail
              with_reducible refine (HS.out _).mono ?_
              rintro e w4 ⟨rfl, B4⟩
              have K4 := Lib.hid (K3.out.trans (B4.mono K3.out.size))
              clear B4
              go_wp2_with fail
              with_reducible refine (HZ.out _).mono ?_
              rintro e w5 ⟨rfl, B5⟩
              have K5 := Lib.hid (K4.out.trans (B5.mono K4.out.size))
              clear B5
              go_wp2_with fail
              with_reducible refine (HT.out _).mono ?_
              rintro e w6 ⟨rfl, B6⟩
              have K6 := Lib.hid (K5.out.trans (B6.mono K5.out.size))
              clear B6
              go_wp2_with fail
              with_reducible refine (head_any _).mono ?_
              rintro e w7 ⟨rfl, B7⟩
              have K7 := Lib.hid (K6.out.trans (B7.mono K6.out.size))
              clear B7
              go_wp2
              go_ret
              exact ⟨rfl, K7.out⟩
theorem arithParts (a b n c : Int) (w : World) (ba : -9223372036854775808 ≤ a ∧ a ≤ 9223372036854775807) (bb : -9223372036854775808 ≤ b ∧ b ≤ 9223372036854775807) (bn : -9223372036854775808 ≤ n ∧ n ≤ 9223372036854775807) (bc : -9223372036854775808 ≤ c ∧ c ≤ 9223372036854775807) :
    Calls Try.prog 7 #[.agg #[.int .i64 a, .int .i64 b, .int .i64 n, .int .i64 c]] w fun e w' => e = .returned (.bool true) ∧ Below w.heap.size w w' := by
  by_cases h : c ≤ 0
  · exact parts_no a b n c w (Ar.fits_mk ba.1 ba.2) (Ar.fits_mk bn.1 bn.2) (Ar.fits_mk bc.1 bc.2) h
  · exact parts_yes a b n c w (Ar.fits_mk ba.1 ba.2) (Ar.fits_mk bb.1 bb.2) (Ar.fits_mk bn.1 bn.2) (Ar.fits_mk bc.1 bc.2) (by omega)
end Go.Proofs.Ytneomiaghenpgaa.law07
