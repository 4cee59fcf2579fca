/- What the functions of package arith answer (walks): sizes, signs, sums, differences. No conditions but that numbers are of 64 bits. -/
import Derived.Test.YtpegaabcelkmmaaDoorBase
import Derived.Test.YtpegaabcelkmmaaDoorArithMath
import Derived.Test.YtpegaabcelkmmaaDoorBits64
import Derived.Laws.Bits64b
namespace Go.Proofs.YtpegaabcelkmmaaDoor.arith
open Go.RowKit Go.Proofs.YtpegaabcelkmmaaDoor.base

theorem wrapU (x : Int) : IntKind.u64.wrap x = x % 18446744073709551616 := by
  simp [IntKind.wrap, IntKind.signed, IntKind.bits]
theorem of_neg (a : Int) (w : World) (ha : Ar.fits a = true) (h : a < 0) : Calls Tryd.prog 54 #[.int .i64 a] w fun e w' => e = .returned (.tuple #[.int .u64 (-a), .bool true]) ∧ w = w' := by
  have f := Ar.fits_t ha
  have W := Lib.hid (show IntKind.u64.wrap (-(IntKind.u64.wrap a)) = -a by rw [wrapU, wrapU]; omega)
  clear ha f
  go_enter Tryd.func54, Tryd.ntmps54
  go_wp2
  go_ret2
  exact ⟨ret_ib W.out rfl, rfl⟩
theorem of_pos (a : Int) (w : World) (ha : Ar.fits a = true) (h : ¬ a < 0) : Calls Tryd.prog 54 #[.int .i64 a] w fun e w' => e = .returned (.tuple #[.int .u64 a, .bool false]) ∧ w = w' := by
  have f := Ar.fits_t ha
  clear ha
  go_enter Tryd.func54, Tryd.ntmps54
  go_wp2
  go_ret2
  exact ⟨rfl, rfl⟩
/-- The number of a size and a sign: what 'signed' answers. -/
def sg (n : Int) (neg : Bool) : Int := if neg = true then -n else n
theorem signed_any (n : Int) (neg : Bool) (w : World) (h0 : 0 ≤ n) (h1 : n ≤ 18446744073709551615) : Calls Tryd.prog 51 #[.int .u64 n, .bool neg] w fun e w' => e = .returned (.tuple #[.int .i64 (Ar.fitV (sg n neg)), .bool (Ar.fits (sg n neg))]) ∧ w = w' := by
  cases neg
  · by_cases h : n < 9223372036854775808
    · have e := Ar.fits_mk (x := n) (by omega) (by omega)
      have e1 := Lib.hid (show Ar.fitV (sg n false) = n by simp [sg, Ar.fitV, e])
      have e2 := Lib.hid (show Ar.fits (sg n false) = true by simp [sg, e])
      clear e
      go_enter Tryd.func51, Tryd.ntmps51
      go_wp2
      go_ret2
      exact ⟨ret_ib e1.out.symm e2.out.symm, rfl⟩
    · have e := Ar.fits_no (x := n) (by omega)
      have e1 := Lib.hid (show Ar.fitV (sg n false) = 0 by simp [sg, Ar.fitV, e])
      have e2 := Lib.hid (show Ar.fits (sg n false) = false by simp [sg, e])
      clear e
      go_enter Tryd.func51, Tryd.ntmps51
      go_wp2
      go_ret2
      exact ⟨ret_ib e1.out.symm e2.out.symm, rfl⟩
  · by_cases h : n ≤ 9223372036854775808
    · have e := Ar.fits_mk (x := -n) (by omega) (by omega)
      have e1 := Lib.hid (show Ar.fitV (sg n true) = wrap64 (IntKind.u64.wrap (-n)) by
        simp only [sg, Ar.fitV, e, if_true]; rw [wrapU]; unfold wrap64; omega)
      have e2 := Lib.hid (show Ar.fits (sg n true) = true by simp [sg, e])
      clear e
      go_enter Tryd.func51, Tryd.ntmps51
      go_wp2
      go_ret2
      exact ⟨ret_ib e1.out.symm e2.out.symm, rfl⟩
    · have e := Ar.fits_no (x := -n) (by omega)
      have e1 := Lib.hid (show Ar.fitV (sg n true) = 0 by simp [sg, Ar.fitV, e])
      have e2 := Lib.hid (show Ar.fits (sg n true) = false by simp [sg, e])
      clear e
      go_enter Tryd.func51, Tryd.ntmps51
      go_wp2
      go_ret2
      exact ⟨ret_ib e1.out.symm e2.out.symm, rfl⟩
theorem mul64 (x y : Int) (w : World) (hx : 0 ≤ x) (hx' : x < 18446744073709551616) (hy : 0 ≤ y) (hy' : y < 18446744073709551616) :
    Calls Tryd.prog 58 #[.int .u64 x, .int .u64 y] w fun e w' => e = .returned (.tuple #[.int .u64 (x * y / 18446744073709551616), .int .u64 (x * y % 18446744073709551616)]) ∧ w = w' := by
  obtain ⟨x, rfl⟩ := Int.eq_ofNat_of_zero_le hx
  obtain ⟨y, rfl⟩ := Int.eq_ofNat_of_zero_le hy
  refine (shelf.s_bits_Mul64 x y (by omega) (by omega) w).mono fun _ _ ⟨a, b⟩ => ⟨a.trans ?_, b.symm⟩
  simp only [Int.natCast_ediv, Int.natCast_emod, Int.natCast_mul]
  rfl
/-- A number's two words. -/
def hi (N : Int) : Int := N / 18446744073709551616
def lo (N : Int) : Int := N % 18446744073709551616
theorem product_any (x y : Int) (w : World) (hx : 0 ≤ x) (hx' : x < 18446744073709551616) (hy : 0 ≤ y) (hy' : y < 18446744073709551616) :
    Calls Tryd.prog 55 #[.int .u64 x, .int .u64 y] w fun e w' => e = .returned (.agg #[.int .u64 (hi (x * y)), .int .u64 (lo (x * y))]) ∧ Below w.heap.size w w' := by
  have M := Lib.hid (fun w => mul64 x y w hx hx' hy hy')
  clear hx hx' hy hy'
  go_enter Tryd.func55, Tryd.ntmps55
  go_wp2_with (go_at_call 58; refine (M.out _).mono ?_; rintro e w' ⟨rfl, rfl⟩)
  exact bodyPost_ret (v := .agg #[.int .u64 (hi (x * y)), .int .u64 (lo (x * y))]) (by simp [results, Tryd.results55, go_sem, hi, lo]) rfl ⟨rfl, (Below.refl _ _).alloc (Nat.le_refl _) _⟩

/-- The sum of the first k numbers. -/
def sumK (zs : List Int) (k : Nat) : Int := (zs.take k).sum
theorem sumK_succ (zs : List Int) (k : Nat) (h : k < zs.length) : sumK zs (k + 1) = sumK zs k + zs.getD k 0 := by
  unfold sumK
  rw [List.take_succ_eq_append_getElem h, List.sum_append, List.getD_eq_getElem?_getD, List.getElem?_eq_getElem h]
  simp
theorem sumK_zero (zs : List Int) : sumK zs 0 = 0 := by simp [sumK]
/-- The step of a sum of two words. -/
theorem sum_step {S a H L : Int} (ha : Ar.fits a = true) (hH : H = S / 18446744073709551616 % 18446744073709551616) (hL : L = S % 18446744073709551616) :
    (L + IntKind.u64.wrap a) % 18446744073709551616 = (S + a) % 18446744073709551616 ∧
    IntKind.u64.wrap (IntKind.u64.wrap (H + IntKind.u64.wrap (a / 9223372036854775808)) + (L + IntKind.u64.wrap a) / 18446744073709551616) = (S + a) / 18446744073709551616 % 18446744073709551616 := by
  have := Ar.fits_t ha
  rw [wrapU, wrapU, wrapU, wrapU]
  by_cases h : a < 0
  · have e1 : a / 9223372036854775808 = -1 := by omega
    have e2 : a % 18446744073709551616 = a + 18446744073709551616 := by omega
    rw [e1, e2]; omega
  · have e1 : a / 9223372036854775808 = 0 := by omega
    have e2 : a % 18446744073709551616 = a := by omega
    rw [e1, e2]; omega
theorem sum_end {S H L : Int} (h1 : -170141183460469231731687303715884105728 ≤ S) (h2 : S < 170141183460469231731687303715884105728) (hH : H = S / 18446744073709551616 % 18446744073709551616) (hL : L = S % 18446744073709551616) :
    (IntKind.u64.wrap (wrap64 L / 9223372036854775808) == H) = Ar.fits S ∧ (Ar.fits S = true → wrap64 L = S) := by
  obtain ⟨M, hM⟩ : ∃ M, M = S / 18446744073709551616 := ⟨_, rfl⟩
  rw [← hM] at hH
  have e0 : S = M * 18446744073709551616 + L := by omega
  have m1 : -9223372036854775808 ≤ M := by omega
  have m2 : M < 9223372036854775808 := by omega
  have l1 : 0 ≤ L := by omega
  have l2 : L < 18446744073709551616 := by omega
  clear hM hL
  by_cases hs : L < 9223372036854775808
  · have e1 : wrap64 L = L := by unfold wrap64; omega
    have e2 : L / 9223372036854775808 = 0 := by omega
    have e3 : IntKind.u64.wrap 0 = 0 := by rw [wrapU]; rfl
    rw [e1, e2, e3]
    cases h : Ar.fits S
    · have := Ar.fits_f h
      refine ⟨?_, fun h => by cases h⟩
      simp
      omega
    · have := Ar.fits_t h
      refine ⟨?_, fun _ => by omega⟩
      simp
      omega
  · have e1 : wrap64 L = L - 18446744073709551616 := by unfold wrap64; omega
    have e2 : (L - 18446744073709551616) / 9223372036854775808 = -1 := by omega
    have e3 : IntKind.u64.wrap (-1) = 18446744073709551615 := by rw [wrapU]; rfl
    rw [e1, e2, e3]
    cases h : Ar.fits S
    · have := Ar.fits_f h
      refine ⟨?_, fun h => by cases h⟩
      simp
      omega
    · have := Ar.fits_t h
      refine ⟨?_, fun _ => by omega⟩
      simp
      omega
end Go.Proofs.YtpegaabcelkmmaaDoor.arith
