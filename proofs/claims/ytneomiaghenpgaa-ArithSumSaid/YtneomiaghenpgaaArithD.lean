/- What Near of package arith answers (walks). No conditions but that numbers are of 64 bits. -/
import Derived.Test.YtneomiaghenpgaaArithC
namespace Go.Proofs.Ytneomiaghenpgaa.arith
open Go.RowKit Go.Proofs.Ytneomiaghenpgaa.base

/-- The nearest integer, out of a size's quotient and rest. -/
def nr (X c : Int) : Int := if 2 * (X % c) - c < 0 then X / c else X / c + 1
theorem nr_pos {N c : Int} : nr (sg N false) c = sg (if c ≤ 2 * (N % c) then N / c + 1 else N / c) false := by
  show (if 2 * (N % c) - c < 0 then N / c else N / c + 1) = if c ≤ 2 * (N % c) then N / c + 1 else N / c
  by_cases h : c ≤ 2 * (N % c)
  · rw [if_pos h, if_neg (by omega)]
  · rw [if_neg h, if_pos (by omega)]
theorem nr_neg {N c : Int} (hc : 0 < c) : nr (sg N true) c = sg (if c < 2 * (N % c) then N / c + 1 else N / c) true := by
  have r0 := Int.emod_nonneg N (show c ≠ 0 by omega)
  have r1 := Int.emod_lt_of_pos N hc
  unfold nr
  by_cases g : N % c = 0
  · rw [(quo_neg0 hc g).1, (quo_neg0 hc g).2, g, if_pos (by omega), if_neg (by omega)]
  · rw [(quo_neg1 hc g).1, (quo_neg1 hc g).2]
    by_cases h : c < 2 * (N % c)
    · rw [if_pos (by omega), if_pos h]
    · rw [if_neg (by omega), if_neg h]; unfold sg; simp; omega
theorem nr_big {N c : Int} (neg : Bool) (hc : 0 < c) (h : 9223372036854775808 < N / c) : Ar.fits (nr (sg N neg) c) = false := by
  apply Ar.fits_no
  cases neg
  · rw [nr_pos]; unfold sg; rw [if_neg (by decide)]; split <;> omega
  · rw [nr_neg hc]; unfold sg; rw [if_pos rfl]; split <;> omega

set_option maxRecDepth 100000 in
set_option maxHeartbeats 2000000 in
theorem nearC (N c : Int) (neg : Bool) (bc : Nat) (w : World) (h0 : 0 ≤ N) (h1 : N ≤ 85070591730234615865843651857942052864) (c0 : 1 ≤ c) (hc : Ar.fits c = true)
    (cc : w.cell? ⟨bc, 0, none⟩ = some (.int .i64 c)) :
    Calls Try.prog 34 #[.agg #[.int .u64 (hi N), .int .u64 (lo N)], .bool neg, .pointer (some ⟨bc, 0, none⟩)] w fun e w' => e = .returned (.tuple #[.int .i64 (Ar.fitV (nr (sg N neg) c)), .bool (Ar.fits (nr (sg N neg) c))]) ∧ Below w.heap.size w w' := by
  obtain ⟨a1, a2, a3, a4⟩ := hl_bd h0 h1
  obtain ⟨c1, c2⟩ := Ar.fits_t hc
  have lc := lt_of_cell cc
  have hl := hilo N
  by_cases hh : c ≤ hi N
  · have F := Lib.hid (nr_big neg (show 0 < c by omega) (show 9223372036854775808 < N / c by
      have : c * 18446744073709551616 ≤ N := by omega
      have : 18446744073709551616 ≤ N / c := Int.le_ediv_of_mul_le (by omega) (by rw [Int.mul_comm]; exact this)
      omega))
    generalize hi N = H at *
    generalize lo N = L at *
    have H1 := Lib.hid (And.intro h1 hl)
    clear h1 hl hc
    go_enter Try.func34, Try.ntmps34
    go_wp2
    go_ret2
    exact ⟨ret_ib (by simp [Ar.fitV, F.out]) F.out.symm, (Below.refl _ _).alloc (Nat.le_refl _) _⟩
  · have DV := Lib.hid (fun w => div_any (hi N) (lo N) c w a1 (by omega) a3 a4 (by omega))
    rw [hl] at DV
    have q0 := Int.ediv_nonneg h0 (show 0 ≤ c by omega)
    have r1 := Int.emod_nonneg N (show c ≠ 0 by omega)
    have r2 := Int.emod_lt_of_pos N (show 0 < c by omega)
    have q9 : N / c ≤ 18446744073709551615 := by
      have : N / c < 18446744073709551616 := Int.ediv_lt_of_lt_mul (by omega) (by omega)
      omega
    by_cases hb : 9223372036854775808 < N / c
    · have F := Lib.hid (nr_big neg (show 0 < c by omega) hb)
      have S := Lib.hid (fun (w : World) => signed_any (N / c) neg w q0 q9)
      have SF := Lib.hid (show Ar.fits (sg (N / c) neg) = false by apply Ar.fits_no; unfold sg; split <;> omega)
      generalize hi N = H at *
      generalize lo N = L at *
      have H1 := Lib.hid (And.intro h1 hl)
      clear h1 hl hc h0
      generalize N / c = Q at *
      generalize N % c = R at *
      go_enter Try.func34, Try.ntmps34
      go_wp2_with (first | (go_at_call 32; refine (DV.out _).mono ?_; rintro e w' ⟨rfl, n, rfl⟩) | (go_at_call 28; refine (S.out _).mono ?_; rintro e w' ⟨rfl, rfl⟩))
      go_ret2
      exact ⟨ret_ib (by simp [Ar.fitV, F.out, SF.out]) (by rw [F.out, SF.out]), below_drewN ((Below.refl _ _).alloc (Nat.le_refl _) _) _⟩
    · have hb' : N / c ≤ 9223372036854775808 := by omega
      cases neg
      · have QP := Lib.hid (nr_pos (N := N) (c := c))
        have S0 := Lib.hid (fun (w : World) => signed_any (N / c) false w q0 q9)
        have S1 := Lib.hid (fun (w : World) => signed_any (N / c + 1) false w (by omega) (by omega))
        generalize hi N = H at *
        generalize lo N = L at *
        have H1 := Lib.hid (And.intro h1 hl)
        clear h1 hl hc h0 hb
        generalize N / c = Q at *
        generalize N % c = R at *
        by_cases k : c ≤ 2 * R
        · by_cases k2 : c - R < R
          · go_enter Try.func34, Try.ntmps34
            go_wp2_with (first | (go_at_call 32; refine (DV.out _).mono ?_; rintro e w' ⟨rfl, n, rfl⟩) | (go_at_call 28; refine (S1.out _).mono ?_; rintro e w' ⟨rfl, rfl⟩))
            go_ret2
            exact ⟨ret_ib (by rw [QP.out, if_pos k]) (by rw [QP.out, if_pos k]), below_drewN ((Below.refl _ _).alloc (Nat.le_refl _) _) _⟩
          · have k3 : (R == c - R) = true := by simp; omega
            go_enter Try.func34, Try.ntmps34
            go_wp2_with (first | (go_at_call 32; refine (DV.out _).mono ?_; rintro e w' ⟨rfl, n, rfl⟩) | (go_at_call 28; refine (S1.out _).mono ?_; rintro e w' ⟨rfl, rfl⟩))
            go_ret2
            exact ⟨ret_ib (by rw [QP.out, if_pos k]) (by rw [QP.out, if_pos k]), below_drewN ((Below.refl _ _).alloc (Nat.le_refl _) _) _⟩
        · have k2 : ¬ c - R < R := by omega
          have k3 : (R == c - R) = false := by simp; omega
          go_enter Try.func34, Try.ntmps34
          go_wp2_with (first | (go_at_call 32; refine (DV.out _).mono ?_; rintro e w' ⟨rfl, n, rfl⟩) | (go_at_call 28; refine (S0.out _).mono ?_; rintro e w' ⟨rfl, rfl⟩))
          go_ret2
          exact ⟨ret_ib (by rw [QP.out, if_neg (by omega)]) (by rw [QP.out, if_neg (by omega)]), below_drewN ((Below.refl _ _).alloc (Nat.le_refl _) _) _⟩
      · have QP := Lib.hid (nr_neg (N := N) (c := c) (by omega))
        have S0 := Lib.hid (fun (w : World) => signed_any (N / c) true w q0 q9)
        have S1 := Lib.hid (fun (w : World) => signed_any (N / c + 1) true w (by omega) (by omega))
        generalize hi N = H at *
        generalize lo N = L at *
        have H1 := Lib.hid (And.intro h1 hl)
        clear h1 hl hc h0 hb
        generalize N / c = Q at *
        generalize N % c = R at *
        by_cases k : c < 2 * R
        · have k2 : c - R < R := by omega
          go_enter Try.func34, Try.ntmps34
          go_wp2_with (first | (go_at_call 32; refine (DV.out _).mono ?_; rintro e w' ⟨rfl, n, rfl⟩) | (go_at_call 28; refine (S1.out _).mono ?_; rintro e w' ⟨rfl, rfl⟩))
          go_ret2
          exact ⟨ret_ib (by rw [QP.out, if_pos k]) (by rw [QP.out, if_pos k]), below_drewN ((Below.refl _ _).alloc (Nat.le_refl _) _) _⟩
        · have k2 : ¬ c - R < R := by omega
          by_cases k4 : R = c - R
          · have k3 : (R == c - R) = true := by simpa using k4
            have K4 := Lib.hid k4
            clear k4
            go_enter Try.func34, Try.ntmps34
            go_wp2_with (first | (go_at_call 32; refine (DV.out _).mono ?_; rintro e w' ⟨rfl, n, rfl⟩) | (go_at_call 28; refine (S0.out _).mono ?_; rintro e w' ⟨rfl, rfl⟩))
            go_ret2
            exact ⟨ret_ib (by rw [QP.out, if_neg (by omega)]) (by rw [QP.out, if_neg (by omega)]), below_drewN ((Below.refl _ _).alloc (Nat.le_refl _) _) _⟩
          · have k3 : (R == c - R) = false := by simpa using k4
            clear k4
            go_enter Try.func34, Try.ntmps34
            go_wp2_with (first | (go_at_call 32; refine (DV.out _).mono ?_; rintro e w' ⟨rfl, n, rfl⟩) | (go_at_call 28; refine (S0.out _).mono ?_; rintro e w' ⟨rfl, rfl⟩))
            go_ret2
            exact ⟨ret_ib (by rw [QP.out, if_neg (by omega)]) (by rw [QP.out, if_neg (by omega)]), below_drewN ((Below.refl _ _).alloc (Nat.le_refl _) _) _⟩
theorem near_any (a b c : Int) (w : World) (ha : Ar.fits a = true) (hb : Ar.fits b = true) (hc : Ar.fits c = true) : Calls Try.prog 20 #[.int .i64 a, .int .i64 b, .int .i64 c] w fun e w' => e = .returned (.tuple #[.int .i64 (Ar.neV a b c), .bool (Ar.neI a b c)]) ∧ Below w.heap.size w w' := by
  by_cases h0 : 0 < c
  · obtain ⟨c1, c2⟩ := Ar.fits_t hc
    have T := Lib.hid (fun (W : World) (bc : Nat) (cc : W.cell? ⟨bc, 0, none⟩ = some (.int .i64 c)) =>
      whole_near a b (Ar.fitV (nr (a * b) c)) (Ar.fits (nr (a * b) c)) ⟨bc, 0, none⟩ W (fun w' => Below W.heap.size W w') ha hb (fun w1 B1 => by
        have k1 := (B1.cell (p := ⟨bc, 0, none⟩) (lt_of_cell cc)).trans cc
        have := nearC (a * b).natAbs c (decide (a * b < 0)) bc w1 (by omega) (abs_bd ha hb) h0 hc k1
        rw [sg_abs] at this
        exact this.mono fun _ _ ⟨p, q⟩ => ⟨p, B1.trans (q.mono B1.size)⟩))
    have E := Lib.hid (show Ar.neV a b c = Ar.fitV (nr (a * b) c) ∧ Ar.neI a b c = Ar.fits (nr (a * b) c) from ⟨by simp [Ar.neV, h0, Ar.near, nr], by simp [Ar.neI, h0, Ar.near, nr]⟩)
    clear ha hb hc
    go_enter Try.func20, Try.ntmps20
    go_wp2_with fail
    refine (T.out _ w.heap.size ?_).mono ?_
    · simp [go_sem]
    rintro e w1 ⟨rfl, B1⟩
    go_wp2
    go_ret2
    exact ⟨ret_ib E.out.1.symm E.out.2.symm, ((Below.refl _ _).alloc (Nat.le_refl _) _).trans (B1.mono (by simp))⟩
  · have e1 := Lib.hid (show Ar.neV a b c = 0 by simp [Ar.neV, h0])
    have e3 := Lib.hid (show Ar.neI a b c = false by simp [Ar.neI, h0])
    clear ha hb hc
    go_enter Try.func20, Try.ntmps20
    go_wp2
    go_ret2
    exact ⟨ret_ib e1.out.symm e3.out.symm, (Below.refl _ _).alloc (Nat.le_refl _) _⟩
end Go.Proofs.Ytneomiaghenpgaa.arith
